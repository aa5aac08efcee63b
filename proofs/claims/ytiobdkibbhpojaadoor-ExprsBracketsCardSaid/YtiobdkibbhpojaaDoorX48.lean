/- exprs, plain: a text is read the same in a context: operands, operators. -/
import Derived.Test.YtiobdkibbhpojaaDoorX47
set_option linter.unusedVariables false
set_option linter.unusedSimpArgs false
namespace Go.Proofs.YtiobdkibbhpojaaDoor
open Go.RowKit Go.Sw

section
variable {s t : ByteArray} {d : Nat} {Q : List UInt8}
def OneJ (s t : ByteArray) (d a : Nat) : Prop := ∃ R, RdS s 125 [] a R ∧ goodR s a R ∧ ∀ a', Rel s t d a a' → ∃ R', RdS t 125 [] a' R' ∧ goodR t a' R' ∧ RelR s t d R R'
def AllJ (s t : ByteArray) (d a : Nat) : Prop := ∀ k : Int, ∃ R, RdS s 93 [.d (iD k)] a R ∧ goodR s a R ∧ ∀ a', Rel s t d a a' → ∃ R', RdS t 93 [.d (iD k)] a' R' ∧ goodR t a' R' ∧ RelR s t d R R'
theorem one_any (ht : t.size ≤ 2000) {a' : Nat} (ha : a' ≤ t.size) {R : Rd} (hR : ∀ x b, R ≠ .ok x b) : ∃ R', RdS t 125 [] a' R' ∧ goodR t a' R' ∧ RelR s t d R R' := by
  obtain ⟨R', h1, h2⟩ := (rd_tot t ht t.size a' (by omega) ha).1
  exact ⟨R', h1, h2, fun x b h => absurd h (hR x b)⟩
theorem all_any (ht : t.size ≤ 2000) {a' : Nat} (ha : a' ≤ t.size) (k : Int) {R : Rd} (hR : ∀ x b, R ≠ .ok x b) : ∃ R', RdS t 93 [.d (iD k)] a' R' ∧ goodR t a' R' ∧ RelR s t d R R' := by
  obtain ⟨R', h1, h2⟩ := (rd_tot t ht t.size a' (by omega) ha).2 k
  exact ⟨R', h1, h2, fun x b h => absurd h (hR x b)⟩
theorem no_ok {e : Int} {b : Nat} : ∀ x c, Rd.no e b ≠ .ok x c := fun _ _ h => by cases h
theorem rel_at (h : Ctx s t d Q) {c c' n : Nat} (e : c' = c + d) (hn : c + n ≤ s.size) : Rel s t d (c + n) (c' + n) := by
  subst e
  have := rel_shift h hn
  rwa [show c + n + d = c + d + n from by omega] at this
theorem lit_good {a c : Nat} (hc : c ≤ s.size) (ha : a ≤ c) : goodR s a (litRd s c) := ⟨fun x b h => (by have := (litRd_good s c hc).1 x b h; exact ⟨by omega, this.2⟩), (litRd_good s c hc).2⟩
theorem one_jt (h : Ctx s t d Q) (a : Nat) (ha : a ≤ s.size) (ih : ∀ c, a < c → c ≤ s.size → OneJ s t d c ∧ AllJ s t d c) : OneJ s t d a := by
  obtain ⟨hc1, hc2⟩ := wAt_in s a ha
  have hw := wOf_in s a ha
  have hz := h.size
  have hs := h.hs
  have ht := h.ht
  have key : 0 < (wOf s a).size → ∀ a', Rel s t d a a' → a' ≤ t.size ∧ wAt t a' = wAt s a + d ∧ wOf t a' = wOf s a ∧ a' ≤ wAt t a' ∧ wAt t a' ≤ t.size ∧ wAt t a' + (wOf s a).size ≤ t.size := fun hp a' hr => by
    obtain ⟨q1, q2⟩ := rel_word h hr (word_lt ha hp)
    have q3 := wAt_in t a' hr.2.1
    have q4 := wOf_in t a' hr.2.1
    rw [q2] at q4
    exact ⟨hr.2.1, q1, q2, q3.1, q3.2, q4⟩
  by_cases e1 : wOf s a = ⟨[110, 111, 116].toArray⟩
  · have hsz : (wOf s a).size = 3 := by rw [e1]; rfl
    obtain ⟨R, h1, h2, h3⟩ := (ih (wAt s a + 3) (by omega) (by omega)).1
    refine ⟨_, one_not s hs a ha (by rw [e1]; exact tok_rfl _) (tok_ne (by rw [e1]; decide)) hsz (by omega) R h1, opRd_good _ h2 (by omega), fun a' hr => ?_⟩
    obtain ⟨k1, k2, k3, k4, k5, k6⟩ := key (by omega) a' hr
    obtain ⟨R', g1, g2, g3⟩ := h3 (wAt t a' + 3) (rel_at h k2 (by omega))
    refine ⟨_, one_not t ht a' k1 (by rw [k3, e1]; exact tok_rfl _) (tok_ne (by rw [k3, e1]; decide)) (by rw [k3]; exact hsz) (by omega) R' g1, opRd_good _ g2 (by omega), ?_⟩
    rw [k3]
    exact opRd_rel g3
  by_cases e2 : wOf s a = ⟨[35].toArray⟩
  · have hsz : (wOf s a).size = 1 := by rw [e2]; rfl
    obtain ⟨R, h1, h2, h3⟩ := (ih (wAt s a + 1) (by omega) (by omega)).1
    refine ⟨_, one_hash s hs a ha (tok_ne e1) (by rw [e2]; exact tok_rfl _) (tok_ne (by rw [e2]; decide)) hsz (by omega) R h1, opRd_good _ h2 (by omega), fun a' hr => ?_⟩
    obtain ⟨k1, k2, k3, k4, k5, k6⟩ := key (by omega) a' hr
    obtain ⟨R', g1, g2, g3⟩ := h3 (wAt t a' + 1) (rel_at h k2 (by omega))
    refine ⟨_, one_hash t ht a' k1 (tok_ne (by rw [k3]; exact e1)) (by rw [k3, e2]; exact tok_rfl _) (tok_ne (by rw [k3, e2]; decide)) (by rw [k3]; exact hsz) (by omega) R' g1, opRd_good _ g2 (by omega), ?_⟩
    rw [k3]
    exact opRd_rel g3
  by_cases e3 : wOf s a = ⟨[45].toArray⟩
  · have hsz : (wOf s a).size = 1 := by rw [e3]; rfl
    have n3 : ((wOf s a).toList == ByteArray.toList ⟨#[45]⟩) = true := by rw [e3]; exact tok_rfl _
    obtain ⟨R, h1, h2, h3⟩ := (ih (wAt s a + 1) (by omega) (by omega)).1
    by_cases hlt : wAt s a + 1 < s.size
    · cases dg : digB (atS s (wAt s a + 1)) with
      | true =>
        refine ⟨_, one_num s hs a ha (tok_ne e1) (tok_ne e2) n3 hsz (by omega) hlt dg, lit_good hc2 hc1, fun a' hr => ?_⟩
        obtain ⟨k1, k2, k3, k4, k5, k6⟩ := key (by omega) a' hr
        have hdg : digB (atS t (wAt t a' + 1)) = true := by rw [k2, show wAt s a + d + 1 = wAt s a + 1 + d from by omega, h.ch hlt]; exact dg
        refine ⟨_, one_num t ht a' k1 (tok_ne (by rw [k3]; exact e1)) (tok_ne (by rw [k3]; exact e2)) (by rw [k3]; exact n3) (by rw [k3]; exact hsz) (by omega) (by omega) hdg, lit_good k5 k4, ?_⟩
        rw [k2]
        exact lit_ctx h hc2
      | false =>
        refine ⟨_, one_neg_a s hs a ha (tok_ne e1) (tok_ne e2) n3 hsz (by omega) hlt dg R h1, opRd_good _ h2 (by omega), fun a' hr => ?_⟩
        obtain ⟨k1, k2, k3, k4, k5, k6⟩ := key (by omega) a' hr
        obtain ⟨R', g1, g2, g3⟩ := h3 (wAt t a' + 1) (rel_at h k2 (by omega))
        have hdg : digB (atS t (wAt t a' + 1)) = false := by rw [k2, show wAt s a + d + 1 = wAt s a + 1 + d from by omega, h.ch hlt]; exact dg
        exact ⟨_, one_neg_a t ht a' k1 (tok_ne (by rw [k3]; exact e1)) (tok_ne (by rw [k3]; exact e2)) (by rw [k3]; exact n3) (by rw [k3]; exact hsz) (by omega) (by omega) hdg R' g1, opRd_good _ g2 (by omega), opRd_rel g3⟩
    · refine ⟨_, one_neg_b s hs a ha (tok_ne e1) (tok_ne e2) n3 hsz (by omega) hlt R h1, opRd_good _ h2 (by omega), fun a' hr => ?_⟩
      obtain ⟨k1, k2, k3, k4, k5, k6⟩ := key (by omega) a' hr
      obtain ⟨R', g1, g2, g3⟩ := h3 (wAt t a' + 1) (rel_at h k2 (by omega))
      have hdg : digB (atS t (wAt t a' + 1)) = false := by
        have h4 := h.at' s.size (Nat.le_refl _)
        rw [show tl s s.size = [] from List.drop_of_length_le (by rw [Utf.sizeL]; exact Nat.le_refl _), List.nil_append] at h4
        have h5 := (tl_cons h4).2.2
        rw [k2, show wAt s a + d + 1 = s.size + d from by omega, h5]
        decide
      exact ⟨_, one_neg_a t ht a' k1 (tok_ne (by rw [k3]; exact e1)) (tok_ne (by rw [k3]; exact e2)) (by rw [k3]; exact n3) (by rw [k3]; exact hsz) (by omega) (by omega) hdg R' g1, opRd_good _ g2 (by omega), opRd_rel g3⟩
  by_cases e4 : wOf s a = ⟨[40].toArray⟩
  · have hsz : (wOf s a).size = 1 := by rw [e4]; rfl
    have n4 : ((wOf s a).toList == ByteArray.toList ⟨#[40]⟩) = true := by rw [e4]; exact tok_rfl _
    obtain ⟨R, h1, h2, h3⟩ := (ih (wAt s a + 1) (by omega) (by omega)).2 1
    cases R with
    | no e b => exact ⟨_, one_par_no s hs a ha (tok_ne e1) (tok_ne e2) (tok_ne e3) n4 (by omega) e b h1, goodR.no (h2.2 e b rfl), fun a' hr => one_any ht hr.2.1 no_ok⟩
    | ok x b =>
      obtain ⟨g1, g2, g3⟩ := h2.1 x b rfl
      by_cases e5 : wOf s b = ⟨[41].toArray⟩
      · have hb := wOf_in s b g2
        rw [e5] at hb
        have hb : wAt s b + 1 ≤ s.size := hb
        have hbw := (wAt_in s b g2).1
        refine ⟨_, one_par s hs a ha (tok_ne e1) (tok_ne e2) (tok_ne e3) n4 (by omega) x b g2 h1 (by rw [e5]; exact tok_rfl _), goodR.ok (by omega) hb g3, fun a' hr => ?_⟩
        obtain ⟨k1, k2, k3, k4, k5, k6⟩ := key (by omega) a' hr
        obtain ⟨R', f1, f2, f3⟩ := h3 (wAt t a' + 1) (rel_at h k2 (by omega))
        obtain ⟨b', rfl, hrb⟩ := f3 x b rfl
        obtain ⟨m1, m2⟩ := rel_word h hrb (by omega)
        obtain ⟨f4, f5, f6⟩ := f2.1 x b' rfl
        have hb' := wOf_in t b' f5
        rw [m2, e5] at hb'
        have hb' : wAt t b' + 1 ≤ t.size := hb'
        have hbw' := (wAt_in t b' f5).1
        refine ⟨_, one_par t ht a' k1 (tok_ne (by rw [k3]; exact e1)) (tok_ne (by rw [k3]; exact e2)) (tok_ne (by rw [k3]; exact e3)) (by rw [k3]; exact n4) (by omega) x b' f5 f1 (by rw [m2, e5]; exact tok_rfl _), goodR.ok (by omega) hb' f6, fun y c q => ?_⟩
        cases q
        exact ⟨_, rfl, rel_at h m1 hb⟩
      · exact ⟨_, one_par_bad s hs a ha (tok_ne e1) (tok_ne e2) (tok_ne e3) n4 (by omega) x b g2 h1 (tok_ne e5), goodR.no (by decide), fun a' hr => one_any ht hr.2.1 no_ok⟩
  cases e5 : isNameB (wOf s a) with
  | true =>
    have hp := name_pos e5
    refine ⟨_, one_name s hs a ha hw (tok_ne e1) (tok_ne e2) (tok_ne e3) (tok_ne e4) e5, goodR.ok (by omega) hw (rng_mk rng0 rngs0), fun a' hr => ?_⟩
    obtain ⟨k1, k2, k3, k4, k5, k6⟩ := key hp a' hr
    refine ⟨_, one_name t ht a' k1 (by rw [k3]; exact k6) (tok_ne (by rw [k3]; exact e1)) (tok_ne (by rw [k3]; exact e2)) (tok_ne (by rw [k3]; exact e3)) (tok_ne (by rw [k3]; exact e4)) (by rw [k3]; exact e5), goodR.ok (by rw [k3]; omega) (by rw [k3]; exact k6) (rng_mk rng0 rngs0), fun y c q => ?_⟩
    cases q
    rw [k3]
    exact ⟨_, rfl, rel_at h k2 hw⟩
  | false =>
    have hg : goodR s a (litRd s (wAt s a)) := lit_good hc2 hc1
    by_cases e6 : wOf s a = ⟨([] : List UInt8).toArray⟩
    · refine ⟨_, one_lit_a s hs a ha (tok_ne e1) (tok_ne e2) (tok_ne e3) (tok_ne e4) e5 (by rw [e6]; exact tok_rfl _), hg, fun a' hr => ?_⟩
      by_cases hlt : wAt s a < s.size
      · obtain ⟨k2, k3⟩ := rel_word h hr hlt
        have k4 := wAt_in t a' hr.2.1
        refine ⟨_, one_lit_a t ht a' hr.2.1 (tok_ne (by rw [k3]; exact e1)) (tok_ne (by rw [k3]; exact e2)) (tok_ne (by rw [k3]; exact e3)) (tok_ne (by rw [k3]; exact e4)) (by rw [k3]; exact e5) (by rw [k3, e6]; exact tok_rfl _), lit_good k4.2 k4.1, ?_⟩
        rw [k2]
        exact lit_ctx h hc2
      · exact one_any ht hr.2.1 fun x b q => by
          have := (litRd_good s (wAt s a) hc2).1 x b q
          omega
    by_cases e7 : wOf s a = ⟨[116, 114, 117, 101].toArray⟩
    · have hsz : (wOf s a).size = 4 := by rw [e7]; rfl
      refine ⟨_, one_lit_b s hs a ha (tok_ne e1) (tok_ne e2) (tok_ne e3) (tok_ne e4) e5 (tok_ne e6) (by rw [e7]; exact tok_rfl _), hg, fun a' hr => ?_⟩
      obtain ⟨k1, k2, k3, k4, k5, k6⟩ := key (by omega) a' hr
      refine ⟨_, one_lit_b t ht a' k1 (tok_ne (by rw [k3]; exact e1)) (tok_ne (by rw [k3]; exact e2)) (tok_ne (by rw [k3]; exact e3)) (tok_ne (by rw [k3]; exact e4)) (by rw [k3]; exact e5) (tok_ne (by rw [k3]; exact e6)) (by rw [k3, e7]; exact tok_rfl _), lit_good k5 k4, ?_⟩
      rw [k2]
      exact lit_ctx h hc2
    by_cases e8 : wOf s a = ⟨[102, 97, 108, 115, 101].toArray⟩
    · have hsz : (wOf s a).size = 5 := by rw [e8]; rfl
      refine ⟨_, one_lit_c s hs a ha (tok_ne e1) (tok_ne e2) (tok_ne e3) (tok_ne e4) e5 (tok_ne e6) (tok_ne e7) (by rw [e8]; exact tok_rfl _), hg, fun a' hr => ?_⟩
      obtain ⟨k1, k2, k3, k4, k5, k6⟩ := key (by omega) a' hr
      refine ⟨_, one_lit_c t ht a' k1 (tok_ne (by rw [k3]; exact e1)) (tok_ne (by rw [k3]; exact e2)) (tok_ne (by rw [k3]; exact e3)) (tok_ne (by rw [k3]; exact e4)) (by rw [k3]; exact e5) (tok_ne (by rw [k3]; exact e6)) (tok_ne (by rw [k3]; exact e7)) (by rw [k3, e8]; exact tok_rfl _), lit_good k5 k4, ?_⟩
      rw [k2]
      exact lit_ctx h hc2
    · exact ⟨_, one_bad s hs a ha (tok_ne e1) (tok_ne e2) (tok_ne e3) (tok_ne e4) e5 (tok_ne e6) (tok_ne e7) (tok_ne e8), goodR.no (by decide), fun a' hr => one_any ht hr.2.1 no_ok⟩
theorem loop_any (ht : t.size ≤ 2000) (k : Int) {b' : Nat} (hb : b' ≤ t.size) {x : Ex} (hx : x.rng) {R : Rd} (hR : ∀ x b, R ≠ .ok x b) : ∃ R', PLoop t k x b' R' ∧ RelR s t d R R' := by
  have ih : ∀ c, b' < c + 1 → c ≤ t.size → AllT t c := fun c _ h2 => (rd_tot t ht t.size c (by omega) h2).2
  by_cases h0 : b' = 0
  · subst h0
    by_cases h : wLev t 0 < k ∨ wLev t 0 = 0
    · exact ⟨_, .stop x 0 h, fun y c q => absurd q (hR y c)⟩
    · have h1 : ¬ wLev t 0 < k := fun q => h (.inl q)
      have h2 : ¬ wLev t 0 = 0 := fun q => h (.inr q)
      have hp := lev_ne h2
      have hw := wOf_in t 0 (Nat.zero_le _)
      obtain ⟨R1, r1, r2⟩ := ih (wAt t 0 + (wOf t 0).size) (by omega) hw (wLev t 0 + 1)
      cases R1 with
      | no e c => exact ⟨_, .no x 0 e c h1 h2 r1, fun y c q => absurd q (hR y c)⟩
      | ok y c =>
        obtain ⟨g1, g2, g3⟩ := r2.1 y c rfl
        obtain ⟨R2, t1, t2⟩ := loop_tot t k 0 (fun c _ h2 => ih c (by omega) h2) t.size c (.mk 3 (wOf t 0) 0 0 ⟨#[]⟩ [x, y]) (by omega) (by omega) g2 (rng_mk rng0 (rngs1 hx (rngs1 g3 rngs0)))
        exact ⟨R2, .more x 0 y c R2 h1 h2 r1 (by omega) g2 t1, fun y c q => absurd q (hR y c)⟩
  · obtain ⟨R', h1, h2⟩ := loop_tot t k (b' - 1) (fun c h1 h2 => ih c (by omega) h2) t.size b' x (by omega) (by omega) hb hx
    exact ⟨R', h1, fun y c q => absurd q (hR y c)⟩
theorem loop_jt (h : Ctx s t d Q) (k : Int) (a : Nat) (ih : ∀ c, a < c → c ≤ s.size → AllJ s t d c) (n : Nat) : ∀ (b : Nat) (x : Ex), s.size - b ≤ n → a < b → b ≤ s.size → x.rng →
    ∃ R, PLoop s k x b R ∧ goodR s a R ∧ ∀ b', Rel s t d b b' → ∃ R', PLoop t k x b' R' ∧ RelR s t d R R' := by
  have stop : ∀ (b : Nat) (x : Ex), a < b → b ≤ s.size → x.rng → (wLev s b < k ∨ wLev s b = 0) → ∃ R, PLoop s k x b R ∧ goodR s a R ∧ ∀ b', Rel s t d b b' → ∃ R', PLoop t k x b' R' ∧ RelR s t d R R' := fun b x hb hb2 hx hl => by
    obtain ⟨hc1, hc2⟩ := wAt_in s b hb2
    refine ⟨_, .stop x b hl, goodR.ok (by omega) hc2 hx, fun b' hr => ⟨_, .stop x b' (by rw [rel_lev h hr]; exact hl), fun y c q => ?_⟩⟩
    cases q
    exact ⟨_, rfl, hr.wat⟩
  induction n with
  | zero =>
    intro b x hn hb hb2 hx
    obtain ⟨hc1, hc2⟩ := wAt_in s b hb2
    have hw := wOf_in s b hb2
    by_cases hl : wLev s b < k ∨ wLev s b = 0
    · exact stop b x hb hb2 hx hl
    · have h2 : ¬ wLev s b = 0 := fun q => hl (.inr q)
      have hp := lev_ne h2
      omega
  | succ n IH =>
    intro b x hn hb hb2 hx
    obtain ⟨hc1, hc2⟩ := wAt_in s b hb2
    have hw := wOf_in s b hb2
    by_cases hl : wLev s b < k ∨ wLev s b = 0
    · exact stop b x hb hb2 hx hl
    · have h1 : ¬ wLev s b < k := fun q => hl (.inl q)
      have h2 : ¬ wLev s b = 0 := fun q => hl (.inr q)
      have hp := lev_ne h2
      obtain ⟨R, r1, r2, r3⟩ := ih (wAt s b + (wOf s b).size) (by omega) hw (wLev s b + 1)
      cases R with
      | no e c => exact ⟨_, .no x b e c h1 h2 r1, goodR.no (r2.2 e c rfl), fun b' hr => loop_any h.ht k hr.2.1 hx no_ok⟩
      | ok y c =>
        obtain ⟨g1, g2, g3⟩ := r2.1 y c rfl
        obtain ⟨R2, t1, t2, t3⟩ := IH c (.mk 3 (wOf s b) 0 0 ⟨#[]⟩ [x, y]) (by omega) (by omega) g2 (rng_mk rng0 (rngs1 hx (rngs1 g3 rngs0)))
        refine ⟨R2, .more x b y c R2 h1 h2 r1 (by omega) g2 t1, t2, fun b' hr => ?_⟩
        obtain ⟨k2, k3⟩ := rel_word h hr (word_lt hb2 hp)
        have k4 := wAt_in t b' hr.2.1
        have k5 := rel_lev h hr
        obtain ⟨R', f1, f2, f3⟩ := r3 (wAt t b' + (wOf s b).size) (rel_at h k2 hw)
        obtain ⟨c', rfl, hrc⟩ := f3 y c rfl
        obtain ⟨m1, m2, m3⟩ := f2.1 y c' rfl
        obtain ⟨R2', u1, u2⟩ := t3 c' hrc
        refine ⟨R2', .more x b' y c' R2' (by rw [k5]; exact h1) (by rw [k5]; exact h2) (by rw [k5, k3]; exact f1) (by omega) m2 (by rw [k3]; exact u1), u2⟩
theorem ploop_ge {k : Int} {x : Ex} {b : Nat} {R : Rd} (h : PLoop t k x b R) : ∀ {z : Ex} {c : Nat}, R = .ok z c → b ≤ c := by
  induction h with
  | stop x a hl => intro z c q; cases q; unfold wAt; omega
  | no x a e b h h0 hr => intro z c q; cases q
  | more x a y b R h h0 hr hb hb2 ht ih => intro z c q; have := ih q; omega
theorem all_jt (h : Ctx s t d Q) (a : Nat) (ha : a ≤ s.size) (ih : ∀ c, a < c → c ≤ s.size → AllJ s t d c) (h1 : OneJ s t d a) : AllJ s t d a := fun k => by
  obtain ⟨R, r1, r2, r3⟩ := h1
  cases R with
  | no e b => exact ⟨_, all_no1 s h.hs k a ha e b r1, goodR.no (r2.2 e b rfl), fun a' hr => all_any h.ht hr.2.1 k no_ok⟩
  | ok x b =>
    obtain ⟨g1, g2, g3⟩ := r2.1 x b rfl
    obtain ⟨R2, t1, t2, t3⟩ := loop_jt h k a ih s.size b x (by omega) g1 g2 g3
    have tot : ∀ a', Rel s t d a a' → ∃ R', RdS t 93 [.d (iD k)] a' R' ∧ goodR t a' R' ∧ RelR s t d R2 R' := fun a' hr => by
      obtain ⟨R', f1, f2, f3⟩ := r3 a' hr
      obtain ⟨b', rfl, hrb⟩ := f3 x b rfl
      obtain ⟨m1, m2, m3⟩ := f2.1 x b' rfl
      cases R2 with
      | no e c => exact all_any h.ht hr.2.1 k no_ok
      | ok z c =>
        obtain ⟨R2', u1, u2⟩ := t3 b' hrb
        obtain ⟨c', rfl, hrc⟩ := u2 z c rfl
        obtain ⟨w1, w2, w3⟩ := t2.1 z c rfl
        have hr2 := all_ok t h.ht k a' hr.2.1 x b' m2 f1 z c' u1
        refine ⟨_, hr2, ?_, u2⟩
        refine goodR.ok ?_ hrc.2.1 w3
        exact Nat.lt_of_lt_of_le m1 (ploop_ge u1 rfl)
    cases R2 with
    | no e c => exact ⟨_, all_no s h.hs k a ha x b g2 r1 e c t1, t2, tot⟩
    | ok z c => exact ⟨_, all_ok s h.hs k a ha x b g2 r1 z c t1, t2, tot⟩
/-- Reading a text, and reading it in a context. -/
theorem rd_jt (h : Ctx s t d Q) (n : Nat) : ∀ a : Nat, s.size - a ≤ n → a ≤ s.size → OneJ s t d a ∧ AllJ s t d a := by
  induction n with
  | zero =>
    intro a hn ha
    have ih : ∀ c, a < c → c ≤ s.size → OneJ s t d c ∧ AllJ s t d c := fun c h1 h2 => absurd hn (by omega)
    have h1 := one_jt h a ha ih
    exact ⟨h1, all_jt h a ha (fun c h1 h2 => (ih c h1 h2).2) h1⟩
  | succ n IH =>
    intro a hn ha
    have ih : ∀ c, a < c → c ≤ s.size → OneJ s t d c ∧ AllJ s t d c := fun c h1 h2 => IH c (by omega) h2
    have h1 := one_jt h a ha ih
    exact ⟨h1, all_jt h a ha (fun c h1 h2 => (ih c h1 h2).2) h1⟩
end
end Go.Proofs.YtiobdkibbhpojaaDoor
