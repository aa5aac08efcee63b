/- exprs, plain: what stands at a place of a text; words and literals that are written. -/
import Derived.Test.YtiobdkibbhpojaaDoorX37
set_option linter.unusedVariables false
set_option linter.unusedSimpArgs false
namespace Go.Proofs.YtiobdkibbhpojaaDoor
open Go.RowKit Go.Sw

/-- The text from a place on. -/
abbrev tl (s : ByteArray) (a : Nat) : List UInt8 := s.data.toList.drop a
theorem tl_len (s : ByteArray) (a : Nat) : (tl s a).length = s.size - a := by rw [List.length_drop, Utf.sizeL]
theorem tl_tl (s : ByteArray) (a n : Nat) : (tl s a).drop n = tl s (a + n) := by rw [List.drop_drop]
theorem tl_app {s : ByteArray} {a : Nat} {u r : List UInt8} (h : tl s a = u ++ r) : tl s (a + u.length) = r := by rw [← tl_tl, h, List.drop_left]
theorem tl_le {s : ByteArray} {a : Nat} {u r : List UInt8} (h : tl s a = u ++ r) (ha : a ≤ s.size) : a + u.length ≤ s.size := by
  have := congrArg List.length h
  rw [tl_len, List.length_append] at this
  omega
theorem tl_cons {s : ByteArray} {a : Nat} {c : UInt8} {r : List UInt8} (h : tl s a = c :: r) : a < s.size ∧ tl s (a + 1) = r ∧ atS s a = c.toNat := by
  have h1 := congrArg List.length h
  rw [tl_len, List.length_cons] at h1
  refine ⟨by omega, tl_app (u := [c]) h, ?_⟩
  have h2 : s.data.toList[a]? = some c := by
    have := congrArg (fun l => l[0]?) h
    simpa using this
  show (s.data.toList.getD a 0).toNat = _
  rw [List.getD_eq_getElem?_getD, h2]
  rfl
theorem skipB_head {c : UInt8} {l : List UInt8} (h : c.toNat ≠ 32) : skipB (c :: l) = 0 := by rw [skipB, if_neg h]
theorem skipB_drop : ∀ l : List UInt8, skipB (l.drop (skipB l)) = 0
  | [] => rfl
  | c :: l => by
    by_cases h : c.toNat = 32
    · rw [show skipB (c :: l) = skipB l + 1 from by rw [skipB, if_pos h], List.drop_succ_cons]
      exact skipB_drop l
    · rw [skipB_head h]
      exact skipB_head h
theorem wAt_eq (s : ByteArray) (a : Nat) : wAt s a = a + skipB (tl s a) := rfl
theorem wAt_wAt (s : ByteArray) (a : Nat) : wAt s (wAt s a) = wAt s a := by
  rw [wAt_eq s (wAt s a), wAt_eq s a, ← tl_tl, skipB_drop]
  omega
theorem wAt_here {s : ByteArray} {a : Nat} {c : UInt8} {l : List UInt8} (h : tl s a = c :: l) (hc : c.toNat ≠ 32) : wAt s a = a := by
  rw [wAt_eq, h, skipB_head hc]; omega
theorem wAt_end {s : ByteArray} {a : Nat} (h : tl s a = []) : wAt s a = a := by rw [wAt_eq, h]; rfl
theorem wAt_blank {s : ByteArray} {a : Nat} {l : List UInt8} (h : tl s a = 32 :: l) : wAt s a = wAt s (a + 1) := by
  have h2 := (tl_cons h).2.1
  rw [wAt_eq, wAt_eq, h, h2, show skipB (32 :: l) = skipB l + 1 from by rw [skipB, if_pos (by decide)]]
  omega
theorem ex_pack (s : ByteArray) (k : Nat) : s.extract k s.size = packS (tl s k) := by
  have h := drop_list s k
  have h2 := back_list (s.extract k s.size)
  rw [h] at h2
  exact h2.symm
theorem pack_list (l : List UInt8) : (packS l).data.toList = l := by simp [packS]
theorem pack_toList (l : List UInt8) : (packS l).toList = l := by rw [Lib.toList_data, pack_list]
theorem pack_size (l : List UInt8) : (packS l).size = l.length := by simp [packS, ByteArray.size]
theorem pack_of {s : ByteArray} {l : List UInt8} (h : s.data.toList = l) : s = packS l := by
  subst h
  exact (back_list s).symm
theorem wOf_eq (s : ByteArray) (a : Nat) : wOf s a = wordS (packS (tl s (wAt s a))) := by unfold wOf; rw [ex_pack]
/-- How tightly the operator holds that a text begins with. -/
def levT (r : List UInt8) : Int := levelL (wordS (packS (r.drop (skipB r)))).toList
theorem wLev_eq (s : ByteArray) (a : Nat) : wLev s a = levT (tl s a) := by
  unfold wLev levT
  rw [wOf_eq, tl_tl]; rfl
theorem wLev_wAt (s : ByteArray) {a b : Nat} (h : wAt s a = wAt s b) : wLev s a = wLev s b := by
  unfold wLev
  rw [wOf_eq, wOf_eq, h]

/-- Is it a letter a to z? -/
def lowB (c : UInt8) : Bool := abcS.data.toList.contains c
theorem trim_pack (l : List UInt8) : trimS (packS l) = packS (l.dropWhile lowB) := by
  unfold trimS Lib.trimLeftS
  rw [pack_list]
  rfl
theorem word_pack (l : List UInt8) : wordS (packS l) = if (l.dropWhile lowB).length < l.length then packS (l.take (l.length - (l.dropWhile lowB).length)) else firstOp l opsB := by
  unfold wordS
  rw [trim_pack, pack_size, pack_size, pack_list]
  split
  · apply pack_of
    rw [Lib.extract_data, pack_list]
    rfl
  · rfl
theorem word_low {w r : List UInt8} (hw : ∀ b ∈ w, lowB b = true) (hne : w ≠ []) (hr : r.dropWhile lowB = r) : wordS (packS (w ++ r)) = packS w := by
  have h1 : 0 < w.length := List.length_pos_iff.2 hne
  rw [word_pack, List.dropWhile_append_of_pos hw, hr, List.length_append, if_pos (by omega), Nat.add_sub_cancel, List.take_left]
theorem word_sign {c : UInt8} {l : List UInt8} (hc : lowB c = false) : wordS (packS (c :: l)) = firstOp (c :: l) opsB := by
  have : (c :: l).dropWhile lowB = c :: l := by simp [List.dropWhile, hc]
  rw [word_pack, this, if_neg (Nat.lt_irrefl _)]
/-- What may stand behind an expression. -/
def Tl (r : List UInt8) : Prop := r = [] ∨ ∃ z, r = 32 :: z ∨ r = 41 :: z
theorem Tl.drop {r : List UInt8} (h : Tl r) : r.dropWhile lowB = r := by
  rcases h with rfl | ⟨z, rfl | rfl⟩
  · rfl
  · simp [List.dropWhile, show lowB 32 = false from by decide]
  · simp [List.dropWhile, show lowB 41 = false from by decide]
theorem Tl.dig {r : List UInt8} (h : Tl r) {c : UInt8} {z : List UInt8} (e : r = c :: z) : digB c.toNat = false := by
  rcases h with rfl | ⟨z, rfl | rfl⟩
  · cases e
  · cases e; decide
  · cases e; decide
theorem lev_cases (l : List UInt8) (h : ¬ levelL l = 0) : l = [111, 114] ∨ l = [97, 110, 100] ∨ l = [61, 61] ∨ l = [60] ∨ l = [60, 61] ∨ l = [43] ∨ l = [45] ∨ l = [43, 43] ∨ l = [42] ∨ l = [47] ∨ l = [37] := by
  apply Classical.byContradiction
  intro q
  simp only [not_or] at q
  obtain ⟨q1, q2, q3, q4, q5, q6, q7, q8, q9, q10, q11⟩ := q
  exact h (by simp [levelL, q1, q2, q3, q4, q5, q6, q7, q8, q9, q10, q11])
theorem op_word (l : List UInt8) (h : ¬ levelL l = 0) (z : List UInt8) : wordS (packS (l ++ 32 :: z)) = packS l ∧ ∃ c m, l = c :: m ∧ c.toNat ≠ 32 := by
  have hl : ∀ w : List UInt8, (∀ b ∈ w, lowB b = true) → w ≠ [] → wordS (packS (w ++ 32 :: z)) = packS w := fun w h1 h2 => word_low h1 h2 (Tl.drop (.inr ⟨z, .inl rfl⟩))
  rcases lev_cases l h with rfl | rfl | rfl | rfl | rfl | rfl | rfl | rfl | rfl | rfl | rfl
  · exact ⟨hl _ (by decide) (by decide), _, _, rfl, by decide⟩
  · exact ⟨hl _ (by decide) (by decide), _, _, rfl, by decide⟩
  all_goals refine ⟨?_, _, _, rfl, by decide⟩
  all_goals (simp only [List.cons_append, List.nil_append]; rw [word_sign (by decide)]; rfl)
theorem sign_word (c : UInt8) (z : List UInt8) (h : c = 40 ∨ c = 41 ∨ c = 45 ∨ c = 35) : wordS (packS (c :: z)) = packS [c] := by
  rcases h with rfl | rfl | rfl | rfl
  all_goals (rw [word_sign (by decide)]; rfl)
theorem quote_word (z : List UInt8) : wordS (packS (34 :: z)) = packS [] := by
  rw [word_sign (by decide)]; rfl
theorem dig_list {c : UInt8} (h : digB c.toNat = true) : c = 48 ∨ c = 49 ∨ c = 50 ∨ c = 51 ∨ c = 52 ∨ c = 53 ∨ c = 54 ∨ c = 55 ∨ c = 56 ∨ c = 57 := by
  simp only [digB, Bool.and_eq_true, decide_eq_true_eq] at h
  have : c.toNat = 48 ∨ c.toNat = 49 ∨ c.toNat = 50 ∨ c.toNat = 51 ∨ c.toNat = 52 ∨ c.toNat = 53 ∨ c.toNat = 54 ∨ c.toNat = 55 ∨ c.toNat = 56 ∨ c.toNat = 57 := by omega
  rcases this with q | q | q | q | q | q | q | q | q | q
  all_goals (have := b_eq q (by decide); subst this; decide)
theorem dig_word {c : UInt8} (z : List UInt8) (h : digB c.toNat = true) : wordS (packS (c :: z)) = packS [] := by
  rcases dig_list h with rfl | rfl | rfl | rfl | rfl | rfl | rfl | rfl | rfl | rfl
  all_goals (rw [word_sign (by decide)]; rfl)

/-- Digits are digits. -/
theorem dec_digs (u : Nat) : ∀ b ∈ Lib.decDigits u, digB b.toNat = true := by
  induction u using Nat.strongRecOn with
  | _ u ih =>
    rw [Lib.decDigits]
    have hd : ∀ v, v < 10 → digB (UInt8.ofNat (48 + v)).toNat = true := fun v hv => by
      rw [dig_nat hv]
      simp only [digB, Bool.and_eq_true, decide_eq_true_eq]
      omega
    by_cases h : u < 10
    · rw [dif_pos h]
      intro b hb
      rw [List.mem_singleton] at hb
      rw [hb]
      exact hd u h
    · rw [dif_neg h]
      intro b hb
      rcases List.mem_append.1 hb with hb | hb
      · exact ih _ (by omega) b hb
      · rw [List.mem_singleton] at hb
        rw [hb]
        exact hd _ (by omega)
theorem dEnd_run (s : ByteArray) {r : List UInt8} (hr : ∀ c z, r = c :: z → digB c.toNat = false) : ∀ (ds : List UInt8) (n t : Nat), tl s t = ds ++ r → (∀ b ∈ ds, digB b.toNat = true) → ds.length < n → dEnd s n t = t + ds.length
  | _, 0, _, _, _, h => absurd h (Nat.not_lt_zero _)
  | [], n + 1, t, h, _, _ => by
    unfold dEnd
    rw [if_neg]
    · rfl
    · rintro ⟨h1, h2⟩
      cases r with
      | nil =>
        have := congrArg List.length h
        rw [tl_len] at this
        simp at this
        omega
      | cons c z =>
        have := (tl_cons (show tl s t = c :: z from h)).2.2
        rw [this, hr c z rfl] at h2
        cases h2
  | b :: ds, n + 1, t, h, hd, hn => by
    obtain ⟨h1, h2, h3⟩ := tl_cons (show tl s t = b :: (ds ++ r) from h)
    unfold dEnd
    rw [if_pos ⟨h1, by rw [h3]; exact hd b (List.mem_cons_self ..)⟩, dEnd_run s hr ds n (t + 1) h2 (fun c hc => hd c (List.mem_cons_of_mem _ hc)) (by simp only [List.length_cons] at hn; omega), List.length_cons]
    omega
theorem qEnd_run (s : ByteArray) (r : List UInt8) : ∀ (S : List UInt8) (n t : Nat), tl s t = escL S ++ 34 :: r → S.length < n → qEnd s n t = t + (escL S).length
  | _, 0, _, _, h => absurd h (Nat.not_lt_zero _)
  | [], n + 1, t, h, _ => by
    obtain ⟨h1, h2, h3⟩ := tl_cons (show tl s t = 34 :: r from h)
    unfold qEnd
    rw [if_neg (fun q => q.2 (by rw [h3]; rfl))]
    rfl
  | b :: S, n + 1, t, h, hn => by
    have e : escL (b :: S) = escB b ++ escL S := rfl
    rw [e] at h ⊢
    have hn : S.length < n := by simp only [List.length_cons] at hn; omega
    unfold escB at h ⊢
    by_cases c1 : b.toNat = 10
    · rw [if_pos c1] at h ⊢
      obtain ⟨h1, h2, h3⟩ := tl_cons (show tl s t = 92 :: (110 :: (escL S ++ 34 :: r)) from by rw [h]; simp)
      obtain ⟨-, h5, -⟩ := tl_cons h2
      unfold qEnd
      rw [if_pos ⟨h1, by rw [h3]; decide⟩, if_pos (by rw [h3]; rfl), qEnd_run s r S n (t + 2) h5 hn, List.length_append]
      simp only [List.length_cons, List.length_nil]
      omega
    · rw [if_neg c1] at h ⊢
      by_cases c2 : b.toNat = 92 ∨ b.toNat = 34
      · rw [if_pos c2] at h ⊢
        obtain ⟨h1, h2, h3⟩ := tl_cons (show tl s t = 92 :: (b :: (escL S ++ 34 :: r)) from by rw [h]; simp)
        obtain ⟨-, h5, -⟩ := tl_cons h2
        unfold qEnd
        rw [if_pos ⟨h1, by rw [h3]; decide⟩, if_pos (by rw [h3]; rfl), qEnd_run s r S n (t + 2) h5 hn, List.length_append]
        simp only [List.length_cons, List.length_nil]
        omega
      · rw [if_neg c2] at h ⊢
        obtain ⟨h1, h2, h3⟩ := tl_cons (show tl s t = b :: (escL S ++ 34 :: r) from by rw [h]; simp)
        unfold qEnd
        rw [if_pos ⟨h1, by rw [h3]; omega⟩, if_neg (by rw [h3]; omega), qEnd_run s r S n (t + 1) h2 hn, List.length_append]
        simp only [List.length_cons, List.length_nil]
        omega
theorem pre1 (p c : UInt8) (q l : List UInt8) (h : p ≠ c) : ¬ Lib.hasPrefix (c :: l) (p :: q) = true := by
  simp [Lib.hasPrefix, List.isPrefixOf, h]
/-- What is written of a value ends where reading ends. -/
theorem litTo_wr (s : ByteArray) (hs : s.size ≤ 2000) (t n : Int) (sv : ByteArray) (hv : vcheck t n sv = 0) (c : Nat) (hc : c ≤ s.size) (r : List UInt8) (hT : ∀ c z, r = c :: z → digB c.toNat = false) (h : tl s c = wr t n sv.data.toList ++ r) :
    litTo s c (tl s c) = c + (wr t n sv.data.toList).length := by
  have hin := tl_le h hc
  unfold wr at h hin ⊢
  by_cases t1 : t = 1
  · rw [if_pos t1] at h hin ⊢
    rw [h]
    unfold Lib.itoa at h hin ⊢
    by_cases hn : n < 0
    · rw [if_pos hn] at h hin ⊢
      have hd := dec_digs n.natAbs
      generalize Lib.decDigits n.natAbs = ds at *
      simp only [List.cons_append, List.length_cons] at h hin ⊢
      unfold litTo
      rw [if_neg (pre1 _ _ _ _ (by decide)), if_neg (pre1 _ _ _ _ (by decide)), if_neg (pre1 _ _ _ _ (by decide)), if_pos (by simp [Lib.hasPrefix, List.isPrefixOf]),
        dEnd_run s hT ds _ (c + 1) (tl_cons h).2.1 hd (by omega)]
      omega
    · rw [if_neg hn] at h hin ⊢
      have hd := dec_digs n.toNat
      obtain ⟨x, ds, e, h1, h2⟩ := dec_head n.toNat
      have hx : ∀ p : UInt8, p.toNat < 48 ∨ 57 < p.toNat → p ≠ x := fun p hp q => by subst q; omega
      rw [e] at h hin hd ⊢
      unfold litTo
      rw [List.cons_append, if_neg (pre1 _ _ _ _ (hx _ (by decide))), if_neg (pre1 _ _ _ _ (hx _ (by decide))), if_neg (pre1 _ _ _ _ (hx _ (by decide))), if_neg (pre1 _ _ _ _ (hx _ (by decide))),
        dEnd_run s hT (x :: ds) _ c h hd (by omega)]
  · rw [if_neg t1] at h hin ⊢
    by_cases t2 : t = 2
    · rw [if_pos t2] at h hin ⊢
      cases hb : (n == 1) with
      | true =>
        rw [hb, fmt_true] at h hin
        rw [fmt_true, h]
        unfold litTo
        rw [List.cons_append, if_neg (pre1 _ _ _ _ (by decide)), if_pos (by simp [Lib.hasPrefix, List.isPrefixOf])]
        rfl
      | false =>
        rw [hb, fmt_false] at h hin
        rw [fmt_false, h]
        unfold litTo
        rw [List.cons_append, if_neg (pre1 _ _ _ _ (by decide)), if_neg (pre1 _ _ _ _ (by decide)), if_pos (by simp [Lib.hasPrefix, List.isPrefixOf])]
        rfl
    · rw [if_neg t2] at h hin ⊢
      have hsv : sv.data.toList.length ≤ 100 := by
        unfold vcheck at hv
        rw [if_neg t1, if_neg t2] at hv
        rw [Utf.sizeL]
        (repeat' split at hv) <;> first | omega | (simp at hv)
      have hle : sv.data.toList.length ≤ (escL sv.data.toList).length := by
        clear h hin hsv hv
        generalize sv.data.toList = S
        induction S with
        | nil => exact Nat.le_refl _
        | cons b S ih =>
          have e : escL (b :: S) = escB b ++ escL S := rfl
          rw [e, List.length_append, List.length_cons]
          have : 1 ≤ (escB b).length := by unfold escB; (repeat' split) <;> simp
          omega
      have h0 : tl s c = 34 :: (escL sv.data.toList ++ 34 :: r) := by rw [h]; simp
      rw [h0]
      simp only [List.length_cons, List.length_append, List.length_nil] at hin ⊢
      unfold litTo
      rw [if_pos (by simp [Lib.hasPrefix, List.isPrefixOf]), qEnd_run s r sv.data.toList _ (c + 1) (tl_cons h0).2.1 (by omega)]
      omega
theorem wr_pos (t n : Int) (l : List UInt8) : ∃ c z, wr t n l = c :: z ∧ c.toNat ≠ 32 := by
  unfold wr
  by_cases t1 : t = 1
  · rw [if_pos t1]
    obtain ⟨c, z, e, h1, h2⟩ := itoa_head n
    exact ⟨c, z, e, by omega⟩
  rw [if_neg t1]
  by_cases t2 : t = 2
  · rw [if_pos t2]
    cases (n == 1) with
    | true => exact ⟨_, _, fmt_true, by decide⟩
    | false => exact ⟨_, _, fmt_false, by decide⟩
  · rw [if_neg t2]
    exact ⟨_, _, rfl, by decide⟩
theorem litRd_wr (s : ByteArray) (hs : s.size ≤ 2000) (t n : Int) (sv : ByteArray) (hv : vcheck t n sv = 0) (hn : rng n) (c : Nat) (hc : c ≤ s.size) (r : List UInt8) (hT : ∀ c z, r = c :: z → digB c.toNat = false) (h : tl s c = wr t n sv.data.toList ++ r) :
    litRd s c = .ok (.mk 1 ⟨#[]⟩ t n sv []) (c + (wr t n sv.data.toList).length) := by
  have hL := litTo_wr s hs t n sv hv c hc r hT h
  have hE : litE s c = c + (wr t n sv.data.toList).length := by unfold litE; rw [drop_list]; exact hL
  have hR : litR s c = (⟨t, n, sv⟩, 0) := by
    unfold litR
    rw [drop_list, hL, Lib.extract_data, show s.data.toList.drop c = _ from h, Nat.add_sub_cancel_left, List.take_left]
    exact wr_rd t n sv hv hn.1 hn.2
  unfold litRd
  rw [hR, hE, if_pos rfl]
  rfl
/-- A literal that is written is read. -/
theorem lit_read (s : ByteArray) (hs : s.size ≤ 2000) (t n : Int) (sv : ByteArray) (hv : vcheck t n sv = 0) (hn : rng n) (a : Nat) (ha : a ≤ s.size) (r : List UInt8) (hT : Tl r) (h : tl s (wAt s a) = wr t n sv.data.toList ++ r) :
    RdS s 125 [] a (.ok (.mk 1 ⟨#[]⟩ t n sv []) (wAt s a + (wr t n sv.data.toList).length)) := by
  have hL := litRd_wr s hs t n sv hv hn (wAt s a) (wAt_in s a ha).2 r (fun c z e => hT.dig e) h
  rw [← hL]
  have hW := wOf_eq s a
  have hw0 := wOf_in s a ha
  rw [h] at hW
  have nil_case : wOf s a = packS [] → RdS s 125 [] a (litRd s (wAt s a)) := fun q => by
    have q : wOf s a = ⟨([] : List UInt8).toArray⟩ := q
    exact one_lit_a s hs a ha (tok_ne (by rw [q]; decide)) (tok_ne (by rw [q]; decide)) (tok_ne (by rw [q]; decide)) (tok_ne (by rw [q]; decide)) (by rw [q]; decide +kernel) (by rw [q]; exact tok_rfl _)
  unfold wr at hW h
  by_cases t1 : t = 1
  · rw [if_pos t1] at hW h
    unfold Lib.itoa at hW h
    by_cases hn : n < 0
    · rw [if_pos hn] at hW h
      obtain ⟨x, ds, e, h1, h2⟩ := dec_head n.natAbs
      rw [e, List.cons_append] at hW h
      rw [sign_word 45 _ (by decide)] at hW
      have q : wOf s a = ⟨[45].toArray⟩ := hW
      have hz : (wOf s a).size = 1 := by rw [q]; rfl
      obtain ⟨g1, g2, g3⟩ := tl_cons h
      obtain ⟨g4, g5, g6⟩ := tl_cons (show tl s (wAt s a + 1) = x :: (ds ++ r) from g2)
      exact one_num s hs a ha (tok_ne (by rw [q]; decide)) (tok_ne (by rw [q]; decide)) (by rw [q]; exact tok_rfl _) hz (by omega) g4 (by rw [g6]; simp only [digB, Bool.and_eq_true, decide_eq_true_eq]; omega)
    · rw [if_neg hn] at hW
      obtain ⟨x, ds, e, h1, h2⟩ := dec_head n.toNat
      rw [e, List.cons_append, dig_word _ (by simp only [digB, Bool.and_eq_true, decide_eq_true_eq]; omega)] at hW
      exact nil_case hW
  · rw [if_neg t1] at hW
    by_cases t2 : t = 2
    · rw [if_pos t2] at hW
      cases hb : (n == 1) with
      | true =>
        rw [hb, fmt_true, word_low (by decide) (by decide) hT.drop] at hW
        have q : wOf s a = ⟨[116, 114, 117, 101].toArray⟩ := hW
        exact one_lit_b s hs a ha (tok_ne (by rw [q]; decide)) (tok_ne (by rw [q]; decide)) (tok_ne (by rw [q]; decide)) (tok_ne (by rw [q]; decide)) (by rw [q]; decide +kernel) (tok_ne (l := []) (by rw [q]; decide)) (by rw [q]; exact tok_rfl _)
      | false =>
        rw [hb, fmt_false, word_low (by decide) (by decide) hT.drop] at hW
        have q : wOf s a = ⟨[102, 97, 108, 115, 101].toArray⟩ := hW
        exact one_lit_c s hs a ha (tok_ne (by rw [q]; decide)) (tok_ne (by rw [q]; decide)) (tok_ne (by rw [q]; decide)) (tok_ne (by rw [q]; decide)) (by rw [q]; decide +kernel) (tok_ne (l := []) (by rw [q]; decide)) (tok_ne (by rw [q]; decide)) (by rw [q]; exact tok_rfl _)
    · rw [if_neg t2, List.cons_append, quote_word] at hW
      exact nil_case hW

theorem dropW_nil {p : UInt8 → Bool} : ∀ {l : List UInt8}, l.dropWhile p = [] → ∀ x ∈ l, p x = true
  | [], _, x, hx => absurd hx (List.not_mem_nil)
  | y :: l, h, x, hx => by
    rw [List.dropWhile_cons] at h
    split at h
    · rename_i hy
      rcases List.mem_cons.1 hx with rfl | hx
      · exact hy
      · exact dropW_nil h x hx
    · cases h
theorem takeW_mem {p : UInt8 → Bool} : ∀ {l : List UInt8} {x : UInt8}, x ∈ l.takeWhile p → p x = true
  | [], _, h => absurd h (List.not_mem_nil)
  | y :: l, x, h => by
    rw [List.takeWhile_cons] at h
    split at h
    · rename_i hy
      rcases List.mem_cons.1 h with rfl | h
      · exact hy
      · exact takeW_mem h
    · exact absurd h (List.not_mem_nil)
theorem name_low {w : ByteArray} (h : isNameB w = true) : (∀ b ∈ w.data.toList, lowB b = true) ∧ w.data.toList ≠ [] := by
  have hp := name_pos h
  refine ⟨?_, fun q => by rw [← Utf.sizeL, q] at hp; exact absurd hp (Nat.lt_irrefl _)⟩
  unfold isNameB at h
  simp only [Bool.and_eq_true] at h
  have h3 := h.1.2
  unfold trimmed Lib.trimS Lib.trimLeftS Lib.trimRightS at h3
  rw [List.isEmpty_iff] at h3
  have h3 := dropW_nil h3
  intro b hb
  have hb2 : b ∈ w.data.toList.reverse := List.mem_reverse.2 hb
  rw [← List.takeWhile_append_dropWhile (p := fun c => letters26.data.toList.contains c) (l := w.data.toList.reverse)] at hb2
  rcases List.mem_append.1 hb2 with q | q
  · exact takeW_mem q
  · exact h3 b (List.mem_reverse.2 q)
theorem name_ne {w : ByteArray} (h : isNameB w = true) (v : ByteArray) (hv : isNameB v = false) : w ≠ v := fun q => by rw [q, hv] at h; cases h
/-- A name that is written is read. -/
theorem name_read (s : ByteArray) (hs : s.size ≤ 2000) (w : ByteArray) (hw : isNameB w = true) (a : Nat) (ha : a ≤ s.size) (r : List UInt8) (hT : Tl r) (h : tl s (wAt s a) = w.data.toList ++ r) :
    RdS s 125 [] a (.ok (nameEx w) (wAt s a + w.data.toList.length)) := by
  obtain ⟨h1, h2⟩ := name_low hw
  have hW : wOf s a = w := by
    rw [wOf_eq, h, word_low h1 h2 hT.drop]
    exact back_list w
  have h0 := wOf_in s a ha
  have := one_name s hs a ha h0 (tok_ne (by rw [hW]; exact name_ne hw _ (by decide +kernel))) (tok_ne (by rw [hW]; exact name_ne hw _ (by decide +kernel))) (tok_ne (by rw [hW]; exact name_ne hw _ (by decide +kernel))) (tok_ne (by rw [hW]; exact name_ne hw _ (by decide +kernel))) (by rw [hW]; exact hw)
  rw [hW] at this
  rw [Utf.sizeL]
  exact this
end Go.Proofs.YtiobdkibbhpojaaDoor
