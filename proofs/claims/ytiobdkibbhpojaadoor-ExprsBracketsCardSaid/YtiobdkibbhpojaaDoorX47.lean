/- exprs, plain: a text is read the same where blanks and brackets stand around it. -/
import Derived.Test.YtiobdkibbhpojaaDoorX40
set_option linter.unusedVariables false
set_option linter.unusedSimpArgs false
namespace Go.Proofs.YtiobdkibbhpojaaDoor
open Go.RowKit Go.Sw

/-- Nothing, or a bracket: what may stand behind a blank behind a text. -/
def Cl (Q : List UInt8) : Prop := Q = [] ∨ ∃ z, Q = 41 :: z
theorem Cl.skip {Q : List UInt8} (h : Cl Q) : skipB Q = 0 := by
  rcases h with rfl | ⟨z, rfl⟩
  · rfl
  · exact skipB_head (by decide)
theorem Cl.lev {Q : List UInt8} (h : Cl Q) : levelL (wordS (packS Q)).toList = 0 := by
  rcases h with rfl | ⟨z, rfl⟩
  · decide +kernel
  · rw [sign_word 41 z (by decide), pack_toList]; decide
theorem skipB_app : ∀ (l Q : List UInt8), skipB Q = 0 → skipB (l ++ 32 :: Q) = if skipB l < l.length then skipB l else l.length + 1
  | [], Q, h => by
    have h1 : skipB (32 :: Q) = skipB Q + 1 := by rw [skipB, if_pos (by decide)]
    rw [List.nil_append, h1, h]
    rfl
  | c :: l, Q, h => by
    rw [List.cons_append]
    by_cases hc : c.toNat = 32
    · rw [show skipB (c :: (l ++ 32 :: Q)) = skipB (l ++ 32 :: Q) + 1 from by rw [skipB, if_pos hc], skipB_app l Q h, show skipB (c :: l) = skipB l + 1 from by rw [skipB, if_pos hc], List.length_cons]
      by_cases hl : skipB l < l.length
      · rw [if_pos hl, if_pos (by omega)]
      · rw [if_neg hl, if_neg (by omega)]
    · rw [skipB_head hc, skipB_head hc, if_pos (by simp)]
theorem pre_ctx (Q : List UInt8) : ∀ (p l : List UInt8), (∀ b ∈ p, b ≠ 32) → Lib.hasPrefix (l ++ 32 :: Q) p = Lib.hasPrefix l p
  | [], l, _ => by simp [Lib.hasPrefix]
  | b :: p, [], h => by
    have : b ≠ 32 := h b (List.mem_cons_self ..)
    simp [Lib.hasPrefix, List.isPrefixOf, this]
  | b :: p, c :: l, h => by
    have ih := pre_ctx Q p l (fun x hx => h x (List.mem_cons_of_mem _ hx))
    unfold Lib.hasPrefix at ih ⊢
    simp only [List.cons_append, List.isPrefixOf, ih]
theorem firstOp_ctx (Q l : List UInt8) : ∀ ops : List ByteArray, (∀ p ∈ ops, ∀ b ∈ p.data.toList, b ≠ 32) → firstOp (l ++ 32 :: Q) ops = firstOp l ops
  | [], _ => rfl
  | p :: r, h => by
    unfold firstOp
    rw [pre_ctx Q _ l (h p (List.mem_cons_self ..)), firstOp_ctx Q l r (fun q hq => h q (List.mem_cons_of_mem _ hq))]
theorem dropW_ctx (Q : List UInt8) : ∀ l : List UInt8, (l ++ 32 :: Q).dropWhile lowB = l.dropWhile lowB ++ 32 :: Q
  | [] => by simp [List.dropWhile, show lowB 32 = false from by decide]
  | c :: l => by
    rw [List.cons_append, List.dropWhile_cons, List.dropWhile_cons]
    split
    · exact dropW_ctx Q l
    · rfl
theorem word_ctx (Q l : List UInt8) : wordS (packS (l ++ 32 :: Q)) = wordS (packS l) := by
  rw [word_pack, word_pack, dropW_ctx, List.length_append, List.length_append]
  have hle := (List.dropWhile_sublist lowB (l := l)).length_le
  by_cases h : (l.dropWhile lowB).length < l.length
  · rw [if_pos (by omega), if_pos h]
    congr 1
    rw [List.take_append_of_le_length (by omega)]
    congr 1
    omega
  · rw [if_neg (by omega), if_neg h]
    exact firstOp_ctx Q l opsB (by decide)

section
variable {s t : ByteArray} {d : Nat} {Q : List UInt8}
/-- The text s stands in t at d, a blank and Q behind it. -/
structure Ctx (s t : ByteArray) (d : Nat) (Q : List UInt8) : Prop where
  hs : s.size ≤ 2000
  ht : t.size ≤ 2000
  q : Cl Q
  at' : ∀ a, a ≤ s.size → tl t (a + d) = tl s a ++ 32 :: Q
theorem Ctx.size (h : Ctx s t d Q) : t.size = d + s.size + 1 + Q.length := by
  have h1 := congrArg List.length (h.at' 0 (Nat.zero_le _))
  rw [tl_len, List.length_append, tl_len, List.length_cons] at h1
  omega
theorem Ctx.ch (h : Ctx s t d Q) {a : Nat} (ha : a < s.size) : atS t (a + d) = atS s a := by
  cases e : tl s a with
  | nil =>
    have := congrArg List.length e
    rw [tl_len] at this
    simp at this
    omega
  | cons c l =>
    have h1 := h.at' a (by omega)
    rw [e, List.cons_append] at h1
    rw [(tl_cons h1).2.2, (tl_cons e).2.2]
/-- Behind the blanks both stand at the same letter, or both at the end. -/
def Rel (s t : ByteArray) (d : Nat) (a a' : Nat) : Prop := a ≤ s.size ∧ a' ≤ t.size ∧ ((wAt s a < s.size ∧ wAt t a' = wAt s a + d) ∨ (wAt s a = s.size ∧ wAt t a' = d + s.size + 1))
theorem rel_shift (h : Ctx s t d Q) {a : Nat} (ha : a ≤ s.size) : Rel s t d a (a + d) := by
  have hz := h.size
  refine ⟨ha, by omega, ?_⟩
  have hl := tl_len s a
  have hk := skipB_len (tl s a)
  rw [wAt_eq s a, wAt_eq t (a + d), h.at' a ha, skipB_app _ _ h.q.skip]
  by_cases hlt : skipB (tl s a) < (tl s a).length
  · rw [if_pos hlt]; left; omega
  · rw [if_neg hlt]; right; omega
theorem Rel.wat {a a' : Nat} (hr : Rel s t d a a') : Rel s t d (wAt s a) (wAt t a') := by
  obtain ⟨h1, h2, h3⟩ := hr
  refine ⟨(wAt_in s a h1).2, (wAt_in t a' h2).2, ?_⟩
  rw [wAt_wAt, wAt_wAt]
  exact h3
theorem Rel.of_wat {a a' b' : Nat} (hr : Rel s t d a a') (hb : b' ≤ t.size) (e : wAt t b' = wAt t a') : Rel s t d a b' := ⟨hr.1, hb, by rw [e]; exact hr.2.2⟩
theorem rel_word (h : Ctx s t d Q) {a a' : Nat} (hr : Rel s t d a a') (hw : wAt s a < s.size) : wAt t a' = wAt s a + d ∧ wOf t a' = wOf s a := by
  obtain ⟨h1, h2, h3 | h3⟩ := hr
  · refine ⟨h3.2, ?_⟩
    rw [wOf_eq, wOf_eq, h3.2, h.at' _ (by omega), word_ctx]
  · omega
theorem rel_lev (h : Ctx s t d Q) {a a' : Nat} (hr : Rel s t d a a') : wLev t a' = wLev s a := by
  by_cases hw : wAt s a < s.size
  · unfold wLev
    rw [(rel_word h hr hw).2]
  · obtain ⟨h1, h2, h3 | h3⟩ := hr
    · exact absurd h3.1 hw
    · have e1 : tl s (wAt s a) = [] := List.drop_of_length_le (by rw [Utf.sizeL]; omega)
      have e2 : tl t (wAt t a') = Q := by
        have h4 := h.at' s.size (Nat.le_refl _)
        have h5 : tl s s.size = [] := List.drop_of_length_le (by rw [Utf.sizeL]; exact Nat.le_refl _)
        rw [h5, List.nil_append] at h4
        rw [h3.2, show d + s.size + 1 = s.size + d + 1 from by omega]
        exact (tl_cons h4).2.1
      unfold wLev
      rw [wOf_eq, wOf_eq, e1, e2, h.q.lev]
      decide +kernel
theorem word_lt {a : Nat} (ha : a ≤ s.size) (hw : 0 < (wOf s a).size) : wAt s a < s.size := by
  have := wOf_in s a ha
  omega

theorem dEnd_ctx (h : Ctx s t d Q) : ∀ (n m a : Nat), a ≤ s.size → s.size - a < n → n ≤ m → dEnd t m (a + d) = dEnd s n a + d
  | 0, _, _, _, hn, _ => absurd hn (Nat.not_lt_zero _)
  | n + 1, 0, _, _, _, hm => absurd hm (by omega)
  | n + 1, m + 1, a, ha, hn, hm => by
    have hz := h.size
    by_cases hlt : a < s.size
    · unfold dEnd
      rw [h.ch hlt]
      by_cases hc : digB (atS s a) = true
      · rw [if_pos ⟨by omega, hc⟩, if_pos ⟨hlt, hc⟩, show a + d + 1 = a + 1 + d from by omega]
        exact dEnd_ctx h n m (a + 1) (by omega) (by omega) (by omega)
      · rw [if_neg (fun q => hc q.2), if_neg (fun q => hc q.2)]
    · have e : a = s.size := by omega
      subst e
      have h4 := h.at' s.size (Nat.le_refl _)
      have h5 : tl s s.size = [] := List.drop_of_length_le (by rw [Utf.sizeL]; exact Nat.le_refl _)
      rw [h5, List.nil_append] at h4
      have h6 := (tl_cons h4).2.2
      unfold dEnd
      rw [if_neg (fun q => by rw [h6] at q; exact absurd q.2 (by decide)), if_neg (fun q => hlt q.1)]
theorem qEnd_ctx (h : Ctx s t d Q) : ∀ (n m a u : Nat), n ≤ m → qEnd s n a = u → u < s.size → atS s u = 34 → qEnd t m (a + d) = u + d
  | 0, 0, a, u, _, e, _, _ => by
    unfold qEnd at e ⊢
    omega
  | 0, m + 1, a, u, _, e, hu, h34 => by
    unfold qEnd at e
    subst e
    unfold qEnd
    rw [h.ch hu, if_neg (fun q => q.2 h34)]
  | n + 1, 0, _, _, hm, _, _, _ => absurd hm (by omega)
  | n + 1, m + 1, a, u, hm, e, hu, h34 => by
    have hz := h.size
    unfold qEnd at e ⊢
    by_cases hc : a < s.size ∧ atS s a ≠ 34
    · rw [if_pos hc] at e
      rw [h.ch hc.1, if_pos ⟨by omega, hc.2⟩]
      by_cases h92 : atS s a = 92
      · rw [if_pos h92] at e ⊢
        rw [show a + d + 2 = a + 2 + d from by omega]
        exact qEnd_ctx h n m (a + 2) u (by omega) e hu h34
      · rw [if_neg h92] at e ⊢
        rw [show a + d + 1 = a + 1 + d from by omega]
        exact qEnd_ctx h n m (a + 1) u (by omega) e hu h34
    · rw [if_neg hc] at e
      subst e
      rw [h.ch hu, if_neg (fun q => q.2 h34)]
theorem qEnd_stop (s : ByteArray) : ∀ (n a : Nat), s.size - a < n → ¬ (qEnd s n a < s.size ∧ atS s (qEnd s n a) ≠ 34)
  | 0, _, h => absurd h (Nat.not_lt_zero _)
  | n + 1, a, h => by
    unfold qEnd
    by_cases hc : a < s.size ∧ atS s a ≠ 34
    · rw [if_pos hc]
      by_cases h92 : atS s a = 92
      · rw [if_pos h92]; exact qEnd_stop s n (a + 2) (by omega)
      · rw [if_neg h92]; exact qEnd_stop s n (a + 1) (by omega)
    · rw [if_neg hc]; exact hc
/-- A literal that is read is closed. -/
theorem lit_closed (s : ByteArray) (hs : s.size ≤ 2000) (c : Nat) (hc : c ≤ s.size) (h34 : Lib.hasPrefix (tl s c) [34] = true) (hR : (litR s c).2 = 0) : qEnd s (s.size + 1) (c + 1) < s.size := by
  apply Classical.byContradiction
  intro hq
  have hT : litTo s c (tl s c) = s.size := by
    unfold litTo
    rw [if_pos h34]
    omega
  unfold litR at hR
  rw [drop_list, hT, drop_list] at hR
  obtain ⟨hv, hw⟩ := rd_wr (tl s c) (rd (tl s c)).1 (Prod.ext rfl hR)
  generalize (rd (tl s c)).1 = v at hv hw
  obtain ⟨t, n, sv⟩ := v
  simp only at hv hw
  have hnt : ∀ c' z, wr t n sv.data.toList = c' :: z → c' = 34 := fun c' z e => by
    rw [hw] at e
    rw [e] at h34
    apply Classical.byContradiction
    intro q
    exact absurd h34 (pre1 34 c' [] z (fun x => q x.symm))
  have hform : wr t n sv.data.toList = 34 :: (escL sv.data.toList ++ [34]) := by
    unfold wr at hnt ⊢
    by_cases t1 : t = 1
    · rw [if_pos t1] at hnt
      obtain ⟨c', z, e, h1, h2⟩ := itoa_head n
      have := hnt c' z e
      subst this
      exact absurd h1 (by decide)
    rw [if_neg t1] at hnt ⊢
    by_cases t2 : t = 2
    · rw [if_pos t2] at hnt
      cases hb : (n == 1) with
      | true => rw [hb] at hnt; exact absurd (hnt _ _ fmt_true) (by decide)
      | false => rw [hb] at hnt; exact absurd (hnt _ _ fmt_false) (by decide)
    · rw [if_neg t2]
  have h0 : tl s c = 34 :: (escL sv.data.toList ++ 34 :: []) := by rw [← hw, hform]
  have h1 := (tl_cons h0).2.1
  have hlen := congrArg List.length h0
  rw [tl_len, List.length_cons, List.length_append, List.length_cons, List.length_nil] at hlen
  have hle : sv.data.toList.length ≤ (escL sv.data.toList).length := by
    generalize sv.data.toList = S
    induction S with
    | nil => exact Nat.le_refl _
    | cons b S ih =>
      have e : escL (b :: S) = escB b ++ escL S := rfl
      rw [e, List.length_append, List.length_cons]
      have : 1 ≤ (escB b).length := by unfold escB; (repeat' split) <;> simp
      omega
  rw [qEnd_run s [] sv.data.toList _ (c + 1) h1 (by omega)] at hq
  omega
theorem litTo_ctx (h : Ctx s t d Q) {c : Nat} (hc : c ≤ s.size) (hR : (litR s c).2 = 0) : litTo t (c + d) (tl t (c + d)) = litTo s c (tl s c) + d := by
  have hz := h.size
  rw [h.at' c hc]
  unfold litTo
  rw [pre_ctx Q [34] _ (by decide), pre_ctx Q [116, 114, 117, 101] _ (by decide), pre_ctx Q [102, 97, 108, 115, 101] _ (by decide), pre_ctx Q [45] _ (by decide)]
  by_cases p1 : Lib.hasPrefix (tl s c) [34] = true
  · rw [if_pos p1, if_pos p1]
    have hq := lit_closed s h.hs c hc p1 hR
    have hst := qEnd_stop s (s.size + 1) (c + 1) (by omega)
    have h34 : atS s (qEnd s (s.size + 1) (c + 1)) = 34 := Classical.not_not.1 fun q => hst ⟨hq, q⟩
    have := qEnd_ctx h (s.size + 1) (t.size + 1) (c + 1) _ (by omega) rfl hq h34
    rw [show c + d + 1 = c + 1 + d from by omega, this]
    omega
  rw [if_neg p1, if_neg p1]
  by_cases p2 : Lib.hasPrefix (tl s c) [116, 114, 117, 101] = true
  · rw [if_pos p2, if_pos p2]; omega
  rw [if_neg p2, if_neg p2]
  by_cases p3 : Lib.hasPrefix (tl s c) [102, 97, 108, 115, 101] = true
  · rw [if_pos p3, if_pos p3]; omega
  rw [if_neg p3, if_neg p3]
  by_cases p4 : Lib.hasPrefix (tl s c) [45] = true
  · rw [if_pos p4, if_pos p4]
    have := pre_len p4
    rw [tl_len] at this
    simp only [List.length_cons, List.length_nil] at this
    rw [show c + d + 1 = c + 1 + d from by omega]
    exact dEnd_ctx h _ _ (c + 1) (by omega) (by omega) (by omega)
  · rw [if_neg p4, if_neg p4]
    exact dEnd_ctx h _ _ c hc (by omega) (by omega)
/-- What reading leads to in both. -/
def RelR (s t : ByteArray) (d : Nat) (R R' : Rd) : Prop := ∀ x b, R = .ok x b → ∃ b', R' = .ok x b' ∧ Rel s t d b b'
theorem lit_ctx (h : Ctx s t d Q) {c : Nat} (hc : c ≤ s.size) : RelR s t d (litRd s c) (litRd t (c + d)) := by
  intro x b e
  unfold litRd at e
  by_cases hR : (litR s c).2 = 0
  · rw [if_pos hR] at e
    cases e
    have hT := litTo_ctx h hc hR
    have hin := litTo_in s c hc (tl s c) (tl_len s c)
    have hRR : litR t (c + d) = litR s c := by
      unfold litR
      rw [drop_list, drop_list, hT, Lib.extract_data, Lib.extract_data, show t.data.toList.drop (c + d) = _ from h.at' c hc, show litTo s c (tl s c) + d - (c + d) = litTo s c (tl s c) - c from by omega,
        List.take_append_of_le_length (by rw [tl_len]; omega)]
    refine ⟨litE t (c + d), ?_, ?_⟩
    · unfold litRd
      rw [hRR, if_pos hR]
    · unfold litE
      rw [drop_list, drop_list, hT]
      exact rel_shift h hin.2
  · rw [if_neg hR] at e
    cases e
theorem opRd_rel {n : ByteArray} {R R' : Rd} (h : RelR s t d R R') : RelR s t d (opRd n R) (opRd n R') := by
  intro x b e
  cases R with
  | no e' b' => cases e
  | ok y c =>
    cases e
    obtain ⟨b', rfl, hb⟩ := h y b rfl
    exact ⟨b', rfl, hb⟩
end
end Go.Proofs.YtiobdkibbhpojaaDoor
