/- strings.Repeat and strings.ReplaceAll at one letter; blanks laid around signs: plain. -/
import Derived.Test.YtgpnomhhnplchaaDoorT17
import Derived.Test.YtgpnomhhnplchaaDoorT15
import Derived.Test.YtgpnomhhnplchaaDoorShelfR
import Derived.Lib.CountLaws
set_option linter.unusedVariables false
set_option linter.unusedSimpArgs false
namespace Go.Proofs.YtgpnomhhnplchaaDoor
open Go.RowKit Go.Sw

theorem rep_bl : ∀ n, Lib.repeatL [32] n = bl n
  | 0 => rfl
  | n + 1 => by rw [Lib.repeatL, rep_bl n]; rfl
theorem repeat_fn (Γ : Gl) (n : Nat) (h1 : 1 ≤ n) (h3 : n ≤ 3) : DFn Tryd.prog Γ 21 [sD ⟨#[32]⟩, iD (n : Nat)] (sD (packS (bl n))) := by
  refine dfn_of (by kernel_rfl) rfl rfl fun w hG => ?_
  have e : (⟨#[32]⟩ : ByteArray).data.toList = [32] := rfl
  by_cases hn : n = 1
  · subst hn
    refine (Tryd.strings_Repeat_one ⟨#[32]⟩ w).mono ?_
    rintro e w' ⟨rfl, rfl⟩
    exact ⟨rfl, Below.refl _ _⟩
  · refine (Tryd.strings_Repeat_main ⟨#[32]⟩ n w (by omega) (by omega) (by show 1 * n ≤ _; omega) (by decide)).mono ?_
    rintro e' w' ⟨rfl, hb⟩
    rw [e, rep_bl]
    exact ⟨rfl, hb⟩
/-- One letter, replaced. -/
def rpl (c : UInt8) (new : List UInt8) (l : List UInt8) : List UInt8 := l.flatMap fun b => if b = c then new else [b]
theorem rpl_k (c : UInt8) (new : List UInt8) : ∀ l, Lib.replaceK [c] new (Lib.count l [c]) l = rpl c new l
  | [] => rfl
  | b :: l => by
    have ih := rpl_k c new l
    by_cases hb : b = c
    · subst hb
      have hi : Lib.index (b :: l) [b] = ((0 : Nat) : Int) := by simp [Lib.index]
      rw [Lib.count_cons_eq, Nat.add_comm, Lib.replaceK_hit [b] new _ (b :: l) 0 hi]
      show [] ++ new ++ Lib.replaceK [b] new (Lib.count l [b]) l = _
      rw [ih]
      simp [rpl]
    · rw [Lib.count_cons_ne b c l hb]
      cases hk : Lib.count l [c] with
      | zero =>
        rw [hk] at ih
        have : l = rpl c new l := ih
        show b :: l = _
        simp only [rpl, List.flatMap_cons, if_neg hb, List.cons_append, List.nil_append]
        rw [show List.flatMap (fun b => if b = c then new else [b]) l = l from this.symm]
      | succ k =>
        obtain ⟨i, hi⟩ := Lib.index_of_count (s := l) (old := [c]) (by omega)
        have hi2 : Lib.index (b :: l) [c] = ((i + 1 : Nat) : Int) := by
          unfold Lib.index
          rw [if_neg (by simp [List.isPrefixOf]; exact fun h => hb h.symm), hi]
          rw [if_neg (by simp only [beq_iff_eq]; omega)]
          omega
        rw [Lib.replaceK_hit [c] new k (b :: l) (i + 1) hi2]
        rw [hk, Lib.replaceK_hit [c] new k l i hi] at ih
        show b :: l.take i ++ new ++ Lib.replaceK [c] new k (l.drop (i + 1)) = _
        simp only [rpl, List.flatMap_cons, if_neg hb, List.cons_append, List.nil_append]
        congr 1
theorem rpl_id (c : UInt8) : ∀ l, rpl c [c] l = l
  | [] => rfl
  | b :: l => by
    have := rpl_id c l
    simp only [rpl, List.flatMap_cons] at this ⊢
    rw [this]
    by_cases h : b = c
    · rw [if_pos h, h]; rfl
    · rw [if_neg h]; rfl
theorem rpl_all (c : UInt8) (new l : List UInt8) : Lib.replaceAll l [c] new = rpl c new l := by
  unfold Lib.replaceAll Lib.replace
  split
  · rename_i h
    have : [c] = new := eq_of_beq h
    subst this
    exact (rpl_id c l).symm
  · unfold Lib.replaceNum
    rw [if_pos (by omega)]
    exact rpl_k c new l
theorem rpl_len (c : UInt8) (new : List UInt8) (hn : new.length ≤ 7) : ∀ l, (rpl c new l).length ≤ 7 * l.length
  | [] => Nat.le_refl _
  | b :: l => by
    have ih := rpl_len c new hn l
    simp only [rpl, List.flatMap_cons, List.length_append, List.length_cons] at ih ⊢
    split
    · omega
    · simp only [List.length_cons, List.length_nil]; omega
/-- What the program keeps of the longest text that is looked through: some number. -/
def MaxI (Γ : Gl) : Prop := ∃ m : Int, ∀ w, Γ.G w → w.cell? ⟨4, 0, none⟩ = some (.int .i64 m)
theorem replace_fn (Γ : Gl) (hM : MaxI Γ) (s new : ByteArray) (c : UInt8) (hs : s.size ≤ 1000000) (hn : new.size ≤ 100) : DFn Tryd.prog Γ 22 [sD s, sD ⟨#[c]⟩, sD new] (sD (packS (rpl c new.data.toList s.data.toList))) := by
  obtain ⟨m, hm⟩ := hM
  refine ⟨by kernel_rfl, fun F w us hG hNG hF hargs => ?_⟩
  obtain rfl := RpD.vals (l := [sD s, sD ⟨#[c]⟩, sD new]) rfl hargs
  have hc : Lib.countB s ⟨#[c]⟩ ≤ s.size + 1 := Lib.count_le _ _
  refine (Tryd.strings_ReplaceAll s ⟨#[c]⟩ new m w (by omega) (hm w hG) (Nat.le_refl 1) (by
    have : Lib.countB s ⟨#[c]⟩ * new.size ≤ (s.size + 1) * 100 := Nat.mul_le_mul hc hn
    omega)).mono ?_
  rintro e w' ⟨rfl, hb⟩
  refine ⟨_, rfl, hb, ?_⟩
  rw [show (⟨#[c]⟩ : ByteArray).data.toList = [c] from rfl, rpl_all]
  exact .v _ rfl

/-- The signs, in the order in which they are looked for. -/
def sgs : List UInt8 := [46, 58, 44, 123, 125, 33, 63, 43, 38]
def F1 (n j : Nat) (b : UInt8) : List UInt8 := if (sgs.take j).contains b = true then bl n ++ b :: bl n else [b]
theorem bl_none (n : Nat) (c : UInt8) (h : c ≠ 32) (new : List UInt8) : rpl c new (bl n) = bl n := by
  induction n with
  | zero => rfl
  | succ n ih =>
    simp only [bl_succ, rpl, List.flatMap_cons] at ih ⊢
    rw [if_neg (Ne.symm h), ih]; rfl
/-- One sign more. -/
theorem F1_step (n j : Nat) (c : UInt8) (hj : sgs[j]? = some c) (l : List UInt8) : rpl c (bl n ++ c :: bl n) (l.flatMap (F1 n j)) = l.flatMap (F1 n (j + 1)) := by
  have hc32 : c ≠ 32 := by
    intro h
    subst h
    have : (32 : UInt8) ∈ sgs := List.mem_of_getElem? hj
    revert this; decide
  have hnew : (sgs.take j).contains c = false := by
    have hj9 : j < 9 := (List.getElem?_eq_some_iff.1 hj).1
    have key : ∀ j, j < 9 → (sgs.take j).contains (sgs.getD j 0) = false := by decide
    have := key j hj9
    rwa [show sgs.getD j 0 = c by simp [List.getD, hj]] at this
  have htk : sgs.take (j + 1) = sgs.take j ++ [c] := by rw [List.take_add_one, hj]; rfl
  unfold rpl
  rw [List.flatMap_assoc]
  congr 1
  funext b
  unfold F1
  rw [htk]
  cases hb : (sgs.take j).contains b with
  | true =>
    have hbc : b ≠ c := by
      intro h
      rw [h, hnew] at hb; cases hb
    have h2 : (sgs.take j ++ [c]).contains b = true := by
      simp only [List.contains_iff_mem, List.mem_append] at hb ⊢
      exact .inl hb
    rw [if_pos rfl, if_pos h2]
    have e := bl_none n c hc32 (bl n ++ c :: bl n)
    unfold rpl at e
    rw [List.flatMap_append, List.flatMap_cons, e, if_neg hbc]
    rfl
  | false =>
    rw [if_neg (by decide)]
    simp only [List.flatMap_cons, List.flatMap_nil, List.append_nil]
    by_cases hbc : b = c
    · subst hbc
      rw [if_pos rfl, if_pos (by simp)]
    · rw [if_neg hbc, if_neg (by
        simp only [List.contains_iff_mem, List.mem_append, List.mem_singleton, not_or]
        refine ⟨fun h => ?_, hbc⟩
        rw [List.contains_iff_mem.2 h] at hb; cases hb)]
theorem F1_zero (n : Nat) (l : List UInt8) : l.flatMap (F1 n 0) = l := by
  have := fl_zero l
  induction l with
  | nil => rfl
  | cons b l ih => simp only [List.flatMap_cons, ih (fl_zero l)]; rfl
theorem F1_all (n : Nat) (l : List UInt8) : l.flatMap (F1 n 9) = fl n l := rfl
theorem F1_len (n j : Nat) (hn : n ≤ 3) : ∀ l : List UInt8, (l.flatMap (F1 n j)).length ≤ 7 * l.length
  | [] => Nat.le_refl _
  | b :: l => by
    have ih := F1_len n j hn l
    simp only [List.flatMap_cons, List.length_append, List.length_cons, F1]
    split
    · simp only [List.length_append, List.length_cons, bl, List.length_replicate]
      omega
    · simp only [List.length_cons, List.length_nil]; omega
end Go.Proofs.YtgpnomhhnplchaaDoor
