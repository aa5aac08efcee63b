/- exprs' reader: whatever the text, reading ends. -/
import Derived.Test.YtiobdkibbhpojaaDoorX36
import Derived.Test.YtiobdkibbhpojaaDoorXV2
set_option linter.unusedVariables false
set_option linter.unusedSimpArgs false
namespace Go.Proofs.YtiobdkibbhpojaaDoor
open Go.RowKit Go.Sw

/-- Numbers of 64 bits throughout. -/
def rng (n : Int) : Prop := -9223372036854775808 ≤ n ∧ n ≤ 9223372036854775807
mutual
def Ex.rng : Ex → Prop
  | .mk _ _ _ n _ l => Go.Proofs.YtiobdkibbhpojaaDoor.rng n ∧ Ex.rngs l
def Ex.rngs : List Ex → Prop
  | [] => True
  | x :: l => x.rng ∧ Ex.rngs l
end
theorem rng_mk {k : Int} {nm : ByteArray} {t n : Int} {s : ByteArray} {l : List Ex} (h : rng n) (hl : Ex.rngs l) : (Ex.mk k nm t n s l).rng := by
  unfold Ex.rng
  exact ⟨h, hl⟩
theorem rngs0 : Ex.rngs [] := by unfold Ex.rngs; trivial
theorem rngs1 {x : Ex} {l : List Ex} (h : x.rng) (hl : Ex.rngs l) : Ex.rngs (x :: l) := by
  unfold Ex.rngs
  exact ⟨h, hl⟩
theorem rng0 : rng 0 := ⟨by decide, by decide⟩
/-- What is read is behind where reading began. -/
def goodR (s : ByteArray) (a : Nat) (R : Rd) : Prop := (∀ x b, R = .ok x b → a < b ∧ b ≤ s.size ∧ x.rng) ∧ ∀ e b, R = .no e b → e ≠ 0
theorem goodR.no {s : ByteArray} {a : Nat} {e : Int} {b : Nat} (he : e ≠ 0) : goodR s a (.no e b) := ⟨fun _ _ h => (by cases h), fun _ _ h => (by cases h; exact he)⟩
theorem goodR.ok {s : ByteArray} {a : Nat} {x : Ex} {b : Nat} (h1 : a < b) (h2 : b ≤ s.size) (h3 : x.rng) : goodR s a (.ok x b) := ⟨fun _ _ h => (by cases h; exact ⟨h1, h2, h3⟩), fun _ _ h => (by cases h)⟩
theorem tok_eq {w : ByteArray} {l : List UInt8} (h : (w.toList == ByteArray.toList ⟨l.toArray⟩) = true) : w = ⟨l.toArray⟩ := by
  have h := eq_of_beq h
  rw [Lib.toList_data, Lib.toList_data] at h
  obtain ⟨d⟩ := w
  have : d = l.toArray := by
    apply Array.toList_inj.1
    exact h
  rw [this]
theorem tok_ne {w : ByteArray} {l : List UInt8} (h : w ≠ ⟨l.toArray⟩) : (w.toList == ByteArray.toList ⟨l.toArray⟩) = false := by
  rw [Bool.eq_false_iff]
  exact fun q => h (tok_eq q)
theorem tok_rfl (l : List UInt8) : (ByteArray.toList ⟨l.toArray⟩ == ByteArray.toList ⟨l.toArray⟩) = true := beq_self_eq_true _
theorem rd_nil : (rd []).2 = 3 := by decide +kernel
theorem litRd_good (s : ByteArray) (a : Nat) (ha : a ≤ s.size) : goodR s a (litRd s a) := by
  unfold litRd
  split
  · rename_i h
    have hin := litTo_in s a ha (s.extract a s.size).data.toList (by rw [Utf.sizeL, ByteArray.size_extract]; omega)
    refine goodR.ok ?_ hin.2 ?_
    · unfold litE
      have hne : litTo s a (s.extract a s.size).data.toList ≠ a := by
        intro q
        unfold litR at h
        rw [q] at h
        have e : (s.extract a a).data.toList = [] := by
          apply List.eq_nil_of_length_eq_zero
          rw [Utf.sizeL, ByteArray.size_extract]
          omega
        rw [e, rd_nil] at h
        cases h
      omega
    · have := rd_range _ _ _ (show rd _ = ((litR s a).1, (litR s a).2) from rfl)
      exact rng_mk this rngs0
  · rename_i h
    exact goodR.no h
theorem opRd_good {s : ByteArray} {a c : Nat} (n : ByteArray) {R : Rd} (h : goodR s c R) (hc : a ≤ c) : goodR s a (opRd n R) := by
  cases R with
  | no e b => exact goodR.no (h.2 e b rfl)
  | ok x b =>
    obtain ⟨h1, h2, h3⟩ := h.1 x b rfl
    exact goodR.ok (by omega) h2 (rng_mk rng0 (rngs1 h3 rngs0))

theorem lev_ne {w : ByteArray} (h : ¬ levelL w.toList = 0) : 0 < w.size := by
  rcases Nat.eq_zero_or_pos w.size with h0 | h0
  · exfalso
    apply h
    have : w.toList = [] := by
      rw [Lib.toList_data]
      exact List.eq_nil_of_length_eq_zero (by rw [Utf.sizeL]; exact h0)
    rw [this]
    decide +kernel
  · exact h0
theorem name_pos {w : ByteArray} (h : isNameB w = true) : 0 < w.size := by
  rcases Nat.eq_zero_or_pos w.size with h0 | h0
  · exfalso
    have : w.toList = [] := by
      rw [Lib.toList_data]
      exact List.eq_nil_of_length_eq_zero (by rw [Utf.sizeL]; exact h0)
    unfold isNameB at h
    rw [this] at h
    simp at h
  · exact h0

section
variable (s : ByteArray) (hs : s.size ≤ 2000)
def OneT (a : Nat) : Prop := ∃ R, RdS s 125 [] a R ∧ goodR s a R
def AllT (a : Nat) : Prop := ∀ k : Int, ∃ R, RdS s 93 [.d (iD k)] a R ∧ goodR s a R
include hs
theorem one_tot (a : Nat) (ha : a ≤ s.size) (ih : ∀ c, a < c → c ≤ s.size → OneT s c ∧ AllT s c) : OneT s a := by
  obtain ⟨hc1, hc2⟩ := wAt_in s a ha
  have hw := wOf_in s a ha
  by_cases e1 : wOf s a = ⟨[110, 111, 116].toArray⟩
  · have hz : (wOf s a).size = 3 := by rw [e1]; rfl
    obtain ⟨R, h1, h2⟩ := (ih (wAt s a + 3) (by omega) (by omega)).1
    exact ⟨_, one_not s hs a ha (by rw [e1]; exact tok_rfl _) (tok_ne (by rw [e1]; decide)) hz (by omega) R h1, opRd_good _ h2 (by omega)⟩
  by_cases e2 : wOf s a = ⟨[35].toArray⟩
  · have hz : (wOf s a).size = 1 := by rw [e2]; rfl
    obtain ⟨R, h1, h2⟩ := (ih (wAt s a + 1) (by omega) (by omega)).1
    exact ⟨_, one_hash s hs a ha (tok_ne e1) (by rw [e2]; exact tok_rfl _) (tok_ne (by rw [e2]; decide)) hz (by omega) R h1, opRd_good _ h2 (by omega)⟩
  by_cases e3 : wOf s a = ⟨[45].toArray⟩
  · have hz : (wOf s a).size = 1 := by rw [e3]; rfl
    have n3 : ((wOf s a).toList == ByteArray.toList ⟨#[45]⟩) = true := by rw [e3]; exact tok_rfl _
    obtain ⟨R, h1, h2⟩ := (ih (wAt s a + 1) (by omega) (by omega)).1
    by_cases hlt : wAt s a + 1 < s.size
    · cases dg : digB (atS s (wAt s a + 1)) with
      | true => exact ⟨_, one_num s hs a ha (tok_ne e1) (tok_ne e2) n3 hz (by omega) hlt dg, ⟨fun x b h => (by have := (litRd_good s (wAt s a) hc2).1 x b h; exact ⟨by omega, this.2⟩), (litRd_good s (wAt s a) hc2).2⟩⟩
      | false => exact ⟨_, one_neg_a s hs a ha (tok_ne e1) (tok_ne e2) n3 hz (by omega) hlt dg R h1, opRd_good _ h2 (by omega)⟩
    · exact ⟨_, one_neg_b s hs a ha (tok_ne e1) (tok_ne e2) n3 hz (by omega) hlt R h1, opRd_good _ h2 (by omega)⟩
  by_cases e4 : wOf s a = ⟨[40].toArray⟩
  · have hz : (wOf s a).size = 1 := by rw [e4]; rfl
    have n4 : ((wOf s a).toList == ByteArray.toList ⟨#[40]⟩) = true := by rw [e4]; exact tok_rfl _
    obtain ⟨R, h1, h2⟩ := (ih (wAt s a + 1) (by omega) (by omega)).2 1
    cases R with
    | no e b => exact ⟨_, one_par_no s hs a ha (tok_ne e1) (tok_ne e2) (tok_ne e3) n4 (by omega) e b h1, goodR.no (h2.2 e b rfl)⟩
    | ok x b =>
      obtain ⟨g1, g2, g3⟩ := h2.1 x b rfl
      by_cases e5 : wOf s b = ⟨[41].toArray⟩
      · have hb := wOf_in s b g2
        rw [e5] at hb
        have hb : wAt s b + 1 ≤ s.size := hb
        have := (wAt_in s b g2).1
        exact ⟨_, one_par s hs a ha (tok_ne e1) (tok_ne e2) (tok_ne e3) n4 (by omega) x b g2 h1 (by rw [e5]; exact tok_rfl _), goodR.ok (by omega) hb g3⟩
      · exact ⟨_, one_par_bad s hs a ha (tok_ne e1) (tok_ne e2) (tok_ne e3) n4 (by omega) x b g2 h1 (tok_ne e5), goodR.no (by decide)⟩
  cases e5 : isNameB (wOf s a) with
  | true =>
    have := name_pos e5
    exact ⟨_, one_name s hs a ha hw (tok_ne e1) (tok_ne e2) (tok_ne e3) (tok_ne e4) e5, goodR.ok (by omega) hw (rng_mk rng0 rngs0)⟩
  | false =>
    have hg : goodR s a (litRd s (wAt s a)) := ⟨fun x b h => (by have := (litRd_good s (wAt s a) hc2).1 x b h; exact ⟨by omega, this.2⟩), (litRd_good s (wAt s a) hc2).2⟩
    by_cases e6 : wOf s a = ⟨([] : List UInt8).toArray⟩
    · exact ⟨_, one_lit_a s hs a ha (tok_ne e1) (tok_ne e2) (tok_ne e3) (tok_ne e4) e5 (by rw [e6]; exact tok_rfl _), hg⟩
    by_cases e7 : wOf s a = ⟨[116, 114, 117, 101].toArray⟩
    · exact ⟨_, one_lit_b s hs a ha (tok_ne e1) (tok_ne e2) (tok_ne e3) (tok_ne e4) e5 (tok_ne e6) (by rw [e7]; exact tok_rfl _), hg⟩
    by_cases e8 : wOf s a = ⟨[102, 97, 108, 115, 101].toArray⟩
    · exact ⟨_, one_lit_c s hs a ha (tok_ne e1) (tok_ne e2) (tok_ne e3) (tok_ne e4) e5 (tok_ne e6) (tok_ne e7) (by rw [e8]; exact tok_rfl _), hg⟩
    · exact ⟨_, one_bad s hs a ha (tok_ne e1) (tok_ne e2) (tok_ne e3) (tok_ne e4) e5 (tok_ne e6) (tok_ne e7) (tok_ne e8), goodR.no (by decide)⟩
omit hs in
theorem loop_tot (k : Int) (a : Nat) (ih : ∀ c, a < c → c ≤ s.size → AllT s c) (n : Nat) : ∀ (b : Nat) (x : Ex), s.size - b ≤ n → a < b → b ≤ s.size → x.rng → ∃ R, PLoop s k x b R ∧ goodR s a R := by
  induction n with
  | zero =>
    intro b x hn hb hb2 hx
    obtain ⟨hc1, hc2⟩ := wAt_in s b hb2
    have hw := wOf_in s b hb2
    by_cases h : wLev s b < k ∨ wLev s b = 0
    · exact ⟨_, .stop x b h, goodR.ok (by omega) hc2 hx⟩
    · have h2 : ¬ wLev s b = 0 := fun q => h (.inr q)
      have hp := lev_ne h2
      omega
  | succ n IH =>
    intro b x hn hb hb2 hx
    obtain ⟨hc1, hc2⟩ := wAt_in s b hb2
    have hw := wOf_in s b hb2
    by_cases h : wLev s b < k ∨ wLev s b = 0
    · exact ⟨_, .stop x b h, goodR.ok (by omega) hc2 hx⟩
    · have h1 : ¬ wLev s b < k := fun q => h (.inl q)
      have h2 : ¬ wLev s b = 0 := fun q => h (.inr q)
      have hp := lev_ne h2
      obtain ⟨R, r1, r2⟩ := ih (wAt s b + (wOf s b).size) (by omega) hw (wLev s b + 1)
      cases R with
      | no e c => exact ⟨_, .no x b e c h1 h2 r1, goodR.no (r2.2 e c rfl)⟩
      | ok y c =>
        obtain ⟨g1, g2, g3⟩ := r2.1 y c rfl
        obtain ⟨R2, t1, t2⟩ := IH c (.mk 3 (wOf s b) 0 0 ⟨#[]⟩ [x, y]) (by omega) (by omega) g2 (rng_mk rng0 (rngs1 hx (rngs1 g3 rngs0)))
        exact ⟨R2, .more x b y c R2 h1 h2 r1 (by omega) g2 t1, t2⟩
theorem all_tot (a : Nat) (ha : a ≤ s.size) (ih : ∀ c, a < c → c ≤ s.size → AllT s c) (h1 : OneT s a) : AllT s a := fun k => by
  obtain ⟨R, r1, r2⟩ := h1
  cases R with
  | no e b => exact ⟨_, all_no1 s hs k a ha e b r1, goodR.no (r2.2 e b rfl)⟩
  | ok x b =>
    obtain ⟨g1, g2, g3⟩ := r2.1 x b rfl
    obtain ⟨R2, t1, t2⟩ := loop_tot s k a ih s.size b x (by omega) g1 g2 g3
    cases R2 with
    | no e c => exact ⟨_, all_no s hs k a ha x b g2 r1 e c t1, goodR.no (t2.2 e c rfl)⟩
    | ok z c => exact ⟨_, all_ok s hs k a ha x b g2 r1 z c t1, t2⟩
/-- Reading ends. -/
theorem rd_tot (n : Nat) : ∀ a : Nat, s.size - a ≤ n → a ≤ s.size → OneT s a ∧ AllT s a := by
  induction n with
  | zero =>
    intro a hn ha
    have ih : ∀ c, a < c → c ≤ s.size → OneT s c ∧ AllT s c := fun c h1 h2 => absurd hn (by omega)
    have h1 := one_tot s hs a ha ih
    exact ⟨h1, all_tot s hs a ha (fun c h1 h2 => (ih c h1 h2).2) h1⟩
  | succ n IH =>
    intro a hn ha
    have ih : ∀ c, a < c → c ≤ s.size → OneT s c ∧ AllT s c := fun c h1 h2 => IH c (by omega) h2
    have h1 := one_tot s hs a ha ih
    exact ⟨h1, all_tot s hs a ha (fun c h1 h2 => (ih c h1 h2).2) h1⟩
end
end Go.Proofs.YtiobdkibbhpojaaDoor
