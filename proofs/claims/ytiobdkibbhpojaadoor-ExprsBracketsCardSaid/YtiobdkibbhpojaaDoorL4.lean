/- What is written of a value is read as that value, and the other way round; plain. No conditions but those that each law names. -/
import Derived.Test.YtiobdkibbhpojaaDoorW8
import Derived.Test.YtiobdkibbhpojaaDoorL3
set_option linter.unusedVariables false
set_option linter.unusedSimpArgs false
namespace Go.Proofs.YtiobdkibbhpojaaDoor

/-- What is written of a value. -/
def wr (t n : Int) (s : List UInt8) : List UInt8 := if t = 1 then Lib.itoa n else if t = 2 then Lib.formatBool (n == 1) else 34 :: (escL s ++ [34])
theorem good34 : Utf.good 34 := .inl (by omega)
theorem good92 : Utf.good 92 := .inl (by omega)
theorem good10 : Utf.good 10 := .inl (by omega)
theorem enc34 : Utf.enc 34 = [34] := by decide
theorem enc92 : Utf.enc 92 = [92] := by decide
theorem enc10 : Utf.enc 10 = [10] := by decide
theorem dec34 (t : List UInt8) : Lib.decodeL (34 :: t) = (34, 1) := by
  have := Utf.decode_enc 34 good34 t
  rw [enc34] at this
  exact this
theorem dec92 (t : List UInt8) : Lib.decodeL (92 :: t) = (92, 1) := by
  have := Utf.decode_enc 92 good92 t
  rw [enc92] at this
  exact this
theorem escB_id (b : UInt8) (h : 128 ≤ b.toNat) : escB b = [b] := by
  unfold escB
  rw [if_neg (by omega), if_neg (by omega)]
theorem esc_enc (c : Nat) (h : Utf.good c) (h1 : c ≠ 10) (h2 : c ≠ 34) (h3 : c ≠ 92) : escL (Utf.enc c) = Utf.enc c := by
  have hi : c ≤ 1114111 := by unfold Utf.good at h; omega
  unfold Utf.enc
  by_cases c1 : c < 128
  · rw [if_pos c1, escL_one]
    unfold escB
    rw [Utf.b8_toNat c (by omega), if_neg h1, if_neg (by omega)]
  rw [if_neg c1]
  by_cases c2 : c < 2048
  · rw [if_pos c2]
    simp only [escL, List.flatMap_cons, List.flatMap_nil]
    rw [escB_id _ (by rw [Utf.b8_toNat _ (by omega)]; omega), escB_id _ (by rw [Utf.b8_toNat _ (by omega)]; omega)]
    rfl
  rw [if_neg c2]
  by_cases c3 : c < 65536
  · rw [if_pos c3]
    simp only [escL, List.flatMap_cons, List.flatMap_nil]
    rw [escB_id _ (by rw [Utf.b8_toNat _ (by omega)]; omega), escB_id _ (by rw [Utf.b8_toNat _ (by omega)]; omega), escB_id _ (by rw [Utf.b8_toNat _ (by omega)]; omega)]
    rfl
  rw [if_neg c3]
  simp only [escL, List.flatMap_cons, List.flatMap_nil]
  rw [escB_id _ (by rw [Utf.b8_toNat _ (by omega)]; omega), escB_id _ (by rw [Utf.b8_toNat _ (by omega)]; omega), escB_id _ (by rw [Utf.b8_toNat _ (by omega)]; omega), escB_id _ (by rw [Utf.b8_toNat _ (by omega)]; omega)]
  rfl
theorem qgo_92 (n : Nat) (x : UInt8) (r out : List UInt8) : qgo (n + 1) (92 :: x :: r) out =
    (if x.toNat = 92 then qgo n r (out ++ [92]) else if x.toNat = 34 then qgo n r (out ++ [34]) else if x.toNat = 110 then qgo n r (out ++ [10]) else (3, [])) := by
  rw [qgo, if_neg (by simp), dec92]
  simp only
  rw [if_neg (by omega), if_neg (by omega), if_pos trivial, if_neg (by simp)]
  rfl
theorem qgo_rune (n c : Nat) (h : Utf.good c) (h1 : c ≠ 10) (h2 : c ≠ 34) (h3 : c ≠ 92) (r out : List UInt8) : qgo (n + 1) (Utf.enc c ++ r) out = qgo n r (out ++ Utf.enc c) := by
  have hp := Utf.enc_pos c
  have hne : Utf.enc c ++ r ≠ [] := by simp [Utf.enc_ne]
  rw [qgo, if_neg hne, Utf.decode_enc c h r]
  simp only
  have hb : ¬ ((c = 65533 ∧ (Utf.enc c).length = 1) ∨ c = 10) := by
    rintro (⟨rfl, q⟩ | q)
    · revert q; decide
    · exact h1 q
  rw [if_neg hb, if_neg h2, if_neg h3, List.drop_left']
  rfl
theorem qgo_esc : ∀ (cs : List Nat), (∀ c ∈ cs, Utf.good c) → ∀ (n : Nat) (out : List UInt8), cs.length < n → qgo n (escL (Utf.encs cs) ++ [34]) out = if 100 < (out ++ Utf.encs cs).length then (2, []) else (0, out ++ Utf.encs cs)
  | [], _, n, out, hn => by
    obtain ⟨m, rfl⟩ : ∃ m, n = m + 1 := ⟨n - 1, by simp at hn; omega⟩
    have e : escL (Utf.encs []) ++ [34] = [34] := rfl
    rw [e, qgo, if_neg (by simp), dec34]
    simp only
    rw [if_neg (by omega), if_pos trivial, if_neg (by simp), Utf.encs_nil, List.append_nil]
  | c :: cs, hg, n, out, hn => by
    obtain ⟨m, rfl⟩ : ∃ m, n = m + 1 := ⟨n - 1, by simp at hn; omega⟩
    have hm : cs.length < m := by simp at hn; omega
    have ih := qgo_esc cs (fun c hc => hg c (List.mem_cons_of_mem _ hc)) m
    rw [Utf.encs_cons, escL_app, List.append_assoc, ← List.append_assoc out]
    by_cases h1 : c = 10
    · subst h1
      rw [enc10]
      have e : escL [10] ++ (escL (Utf.encs cs) ++ [34]) = 92 :: 110 :: (escL (Utf.encs cs) ++ [34]) := rfl
      rw [e, qgo_92, if_neg (by decide), if_neg (by decide), if_pos (by decide)]
      exact ih _ hm
    by_cases h2 : c = 34
    · subst h2
      rw [enc34]
      have e : escL [34] ++ (escL (Utf.encs cs) ++ [34]) = 92 :: 34 :: (escL (Utf.encs cs) ++ [34]) := rfl
      rw [e, qgo_92, if_neg (by decide), if_pos (by decide)]
      exact ih _ hm
    by_cases h3 : c = 92
    · subst h3
      rw [enc92]
      have e : escL [92] ++ (escL (Utf.encs cs) ++ [34]) = 92 :: 92 :: (escL (Utf.encs cs) ++ [34]) := rfl
      rw [e, qgo_92, if_pos (by decide)]
      exact ih _ hm
    · have hc := hg c List.mem_cons_self
      rw [esc_enc c hc h1 h2 h3, qgo_rune m c hc h1 h2 h3]
      exact ih _ hm
theorem b_eq {x : UInt8} {n : Nat} (h : x.toNat = n) (hn : n < 256) : x = UInt8.ofNat n := by
  apply UInt8.toNat_inj.1
  rw [UInt8.toNat_ofNat', h]
  omega
theorem qgo_ok : ∀ (n : Nat) (l out S : List UInt8), qgo n l out = (0, S) → ∃ cs : List Nat, (∀ c ∈ cs, Utf.good c) ∧ S = out ++ Utf.encs cs ∧ l = escL (Utf.encs cs) ++ [34] ∧ S.length ≤ 100
  | 0, l, out, S, h => by simp [qgo] at h
  | n + 1, l, out, S, h => by
    rw [qgo] at h
    by_cases hl : l = []
    · rw [if_pos hl] at h; simp at h
    rw [if_neg hl] at h
    by_cases hb : ((Lib.decodeL l).1 = 65533 ∧ (Lib.decodeL l).2 = 1) ∨ (Lib.decodeL l).1 = 10
    · rw [if_pos hb] at h; simp at h
    rw [if_neg hb] at h
    obtain ⟨g1, g2, g3⟩ := Utf.enc_decode l hl (fun q => hb (.inl q))
    have h10 : (Lib.decodeL l).1 ≠ 10 := fun q => hb (.inr q)
    generalize (Lib.decodeL l).1 = c at *
    generalize (Lib.decodeL l).2 = k at *
    by_cases h34 : c = 34
    · rw [if_pos h34] at h
      by_cases h1 : 1 < l.length
      · rw [if_pos h1] at h; simp at h
      rw [if_neg h1] at h
      by_cases h2 : 100 < out.length
      · rw [if_pos h2] at h; simp at h
      rw [if_neg h2] at h
      simp only [Prod.mk.injEq, true_and] at h
      subst h h34
      rw [enc34] at g2
      have hl1 : l.length = 1 := by
        have := List.length_pos_iff.2 hl
        omega
      refine ⟨[], by simp, by simp [Utf.encs], ?_, by omega⟩
      have hd : l.drop k = [] := by
        have := congrArg List.length g2
        rw [List.length_append, hl1] at this
        exact List.eq_nil_of_length_eq_zero (by simp at this ⊢; omega)
      rw [hd] at g2
      exact g2
    rw [if_neg h34] at h
    by_cases h92 : c = 92
    · rw [if_pos h92] at h
      by_cases h1 : l.length = 1
      · rw [if_pos h1] at h; simp at h
      rw [if_neg h1] at h
      subst h92
      have hk : k = 1 := by rw [g3, enc92]; rfl
      subst hk
      rw [enc92] at g2
      obtain ⟨x, r, hxr⟩ : ∃ x r, l = 92 :: x :: r := by
        cases hd : l.drop 1 with
        | nil => rw [hd] at g2; exact absurd (by rw [g2]; rfl) h1
        | cons x r => rw [hd] at g2; exact ⟨x, r, g2⟩
      subst hxr
      simp only [List.getD_cons_succ, List.getD_cons_zero, List.drop_succ_cons, List.drop_zero] at h
      have fin : ∀ (v : Nat) (y : UInt8), Utf.good v → Utf.enc v = [y] → escL [y] = [92, x] → qgo n r (out ++ [y]) = (0, S) → ∃ cs : List Nat, (∀ c ∈ cs, Utf.good c) ∧ S = out ++ Utf.encs cs ∧ 92 :: x :: r = escL (Utf.encs cs) ++ [34] ∧ S.length ≤ 100 := by
        intro v y hv he hs hq
        obtain ⟨cs, a1, a2, a3, a4⟩ := qgo_ok n r _ S hq
        refine ⟨v :: cs, fun c hc => ?_, by rw [a2, Utf.encs_cons, he, List.append_assoc], ?_, a4⟩
        · rcases List.mem_cons.1 hc with rfl | hc
          · exact hv
          · exact a1 c hc
        · rw [Utf.encs_cons, he, escL_app, hs, a3]; rfl
      by_cases d1 : x.toNat = 92
      · rw [if_pos d1] at h
        exact fin 92 92 good92 enc92 (by rw [b_eq d1 (by omega)]; rfl) h
      rw [if_neg d1] at h
      by_cases d2 : x.toNat = 34
      · rw [if_pos d2] at h
        exact fin 34 34 good34 enc34 (by rw [b_eq d2 (by omega)]; rfl) h
      rw [if_neg d2] at h
      by_cases d3 : x.toNat = 110
      · rw [if_pos d3] at h
        exact fin 10 10 good10 enc10 (by rw [b_eq d3 (by omega)]; rfl) h
      rw [if_neg d3] at h
      simp at h
    · rw [if_neg h92] at h
      obtain ⟨cs, a1, a2, a3, a4⟩ := qgo_ok n _ _ S h
      refine ⟨c :: cs, fun d hd => ?_, by rw [a2, Utf.encs_cons, List.append_assoc], ?_, a4⟩
      · rcases List.mem_cons.1 hd with rfl | hd
        · exact g1
        · exact a1 d hd
      · rw [Utf.encs_cons, escL_app, esc_enc c g1 h10 h34 h92, List.append_assoc, ← a3]
        exact g2
theorem empty_of {s : ByteArray} (h : s.toList = []) : s = ⟨#[]⟩ := by
  rw [Lib.toList_data] at h
  obtain ⟨d⟩ := s
  have : d = #[] := by
    apply Array.toList_inj.1
    exact h
  rw [this]
theorem fmt_true : Lib.formatBool true = [116, 114, 117, 101] := by decide +kernel
theorem fmt_false : Lib.formatBool false = [102, 97, 108, 115, 101] := by decide +kernel
theorem back_list (s : ByteArray) : (⟨s.data.toList.toArray⟩ : ByteArray) = s := by
  obtain ⟨d⟩ := s
  simp
/-- What is written is read. -/
theorem wr_rd (t n : Int) (s : ByteArray) (h : vcheck t n s = 0) (h0 : -9223372036854775808 ≤ n) (h1 : n ≤ 9223372036854775807) : rd (wr t n s.data.toList) = (⟨t, n, s⟩, 0) := by
  unfold vcheck at h
  by_cases t1 : t = 1
  · subst t1
    rw [if_pos rfl] at h
    by_cases hs : s.toList = []
    · obtain rfl := empty_of hs
      unfold wr
      rw [if_pos rfl]
      obtain ⟨c, r, e, hc1, hc2⟩ := itoa_head n
      have n1 : Lib.itoa n ≠ [116, 114, 117, 101] := fun q => by rw [e] at q; injection q with q1 q2; rw [q1] at hc2; revert hc2; decide
      have n2 : Lib.itoa n ≠ [102, 97, 108, 115, 101] := fun q => by rw [e] at q; injection q with q1 q2; rw [q1] at hc2; revert hc2; decide
      have n3 : Lib.hasPrefix (Lib.itoa n) [34] = false := by
        rw [e]
        have : ((34 : UInt8) == c) = false := by
          simp only [beq_eq_false_iff_ne]
          intro q; rw [← q] at hc1; revert hc1; decide
        simp [Lib.hasPrefix, List.isPrefixOf, this]
      unfold rd
      rw [if_neg n1, if_neg n2, n3, parse_itoa n h0 h1]
      simp
    · rw [if_neg hs] at h; simp at h
  rw [if_neg t1] at h
  by_cases t2 : t = 2
  · subst t2
    rw [if_pos rfl] at h
    by_cases hs : s.toList = []
    · obtain rfl := empty_of hs
      rw [if_pos hs] at h
      unfold wr
      rw [if_neg (by decide), if_pos rfl]
      by_cases hn : n = 1
      · subst hn
        rw [show ((1 : Int) == 1) = true from rfl, fmt_true]
        unfold rd
        rw [if_pos rfl]
      · have hn0 : n = 0 := by
          by_cases q : n = 0 ∨ n = 1
          · exact q.resolve_right hn
          · rw [if_neg q] at h; simp at h
        subst hn0
        rw [show ((0 : Int) == 1) = false from rfl, fmt_false]
        unfold rd
        rw [if_neg (by decide), if_pos rfl]
    · rw [if_neg hs] at h; simp at h
  rw [if_neg t2] at h
  by_cases t3 : t = 3
  · subst t3
    rw [if_pos rfl] at h
    by_cases hn : n = 0
    · subst hn
      rw [if_pos rfl] at h
      by_cases hz : (100 : Int) < s.size
      · rw [if_pos hz] at h; simp at h
      rw [if_neg hz] at h
      by_cases hv : Lib.validD s.data.toList = true
      · obtain ⟨cs, hg, hcs⟩ := Utf.valid_out _ hv
        unfold wr
        rw [if_neg (by decide), if_neg (by decide)]
        unfold rd
        rw [if_neg (by intro q; injection q with q1 q2; revert q1; decide), if_neg (by intro q; injection q with q1 q2; revert q1; decide)]
        have hp : Lib.hasPrefix (34 :: (escL s.data.toList ++ [34])) [34] = true := by simp [Lib.hasPrefix, List.isPrefixOf]
        rw [if_pos hp, List.drop_succ_cons, List.drop_zero]
        have hl : cs.length ≤ s.size := by
          have := Utf.encs_length cs
          rw [← hcs, Utf.sizeL] at this
          exact this
        have hfu : cs.length < (34 :: (escL s.data.toList ++ [34])).length + 1 := by
          have h2 : s.data.toList.length ≤ (escL s.data.toList).length := by
            generalize s.data.toList = l
            induction l with
            | nil => simp
            | cons b l ih =>
              have : 1 ≤ (escB b).length := by unfold escB; (repeat' split) <;> simp
              simp only [escL, List.flatMap_cons, List.length_append, List.length_cons] at ih ⊢
              omega
          rw [Utf.sizeL] at h2
          simp only [List.length_cons, List.length_append, List.length_nil]
          omega
        have hq := qgo_esc cs hg _ [] hfu
        rw [← hcs, List.nil_append] at hq
        have hns : ¬ 100 < s.data.toList.length := by rw [Utf.sizeL]; omega
        rw [hq, if_neg hns]
        simp [back_list]
      · rw [if_neg hv] at h; simp at h
    · rw [if_neg hn] at h; simp at h
  · rw [if_neg t3] at h; simp at h
/-- What is read is written. -/
theorem rd_wr (l : List UInt8) (x : Va) (h : rd l = (x, 0)) : vcheck x.t x.n x.s = 0 ∧ wr x.t x.n x.s.data.toList = l := by
  have he : (⟨#[]⟩ : ByteArray).toList = [] := by rw [Lib.toList_data]
  unfold rd at h
  by_cases k1 : l = [116, 114, 117, 101]
  · rw [if_pos k1] at h
    simp only [Prod.mk.injEq, and_true] at h
    subst h k1
    refine ⟨by simp [vcheck, he], ?_⟩
    unfold wr
    rw [if_neg (by decide), if_pos rfl]
    exact fmt_true
  rw [if_neg k1] at h
  by_cases k2 : l = [102, 97, 108, 115, 101]
  · rw [if_pos k2] at h
    simp only [Prod.mk.injEq, and_true] at h
    subst h k2
    refine ⟨by simp [vcheck, he], ?_⟩
    unfold wr
    rw [if_neg (by decide), if_pos rfl]
    exact fmt_false
  rw [if_neg k2] at h
  by_cases k3 : Lib.hasPrefix l [34] = true
  · rw [if_pos k3] at h
    obtain ⟨r, rfl⟩ : ∃ r, l = 34 :: r := by
      cases l with
      | nil => cases k3
      | cons c r =>
        have k4 : ((34 : UInt8) == c) = true := by simpa [Lib.hasPrefix, List.isPrefixOf] using k3
        exact ⟨r, by rw [← beq_iff_eq.1 k4]⟩
    rw [List.drop_succ_cons, List.drop_zero] at h
    obtain ⟨R1, R2, hR⟩ : ∃ R1 R2, qgo ((34 :: r).length + 1) r [] = (R1, R2) := ⟨_, _, rfl⟩
    rw [hR] at h
    simp only [Prod.mk.injEq] at h
    obtain ⟨h1, rfl⟩ := h
    obtain ⟨cs, a1, a2, a3, a4⟩ := qgo_ok _ _ _ _ hR
    rw [List.nil_append] at a2
    simp only [if_true] at h1
    subst h1
    have hlst : (⟨R2.toArray⟩ : ByteArray).data.toList = R2 := by simp
    have hsz : ((⟨R2.toArray⟩ : ByteArray).size : Int) = (R2.length : Int) := by
      have := Utf.sizeL ⟨R2.toArray⟩
      rw [hlst] at this
      omega
    refine ⟨?_, ?_⟩
    · have hv : Lib.validD R2 = true := by rw [a2]; exact Utf.valid_encs cs a1
      simp only [vcheck]
      rw [if_neg (by decide), if_neg (by decide), if_pos trivial, if_pos trivial, hsz, if_neg (by omega), if_pos hv]
    · unfold wr
      simp only
      rw [if_neg (by decide), if_neg (by decide), a3, ← a2]
  · rw [if_neg k3] at h
    cases hp : Lib.parseIntB 64 l with
    | ok v =>
      rw [hp] at h
      simp only at h
      by_cases hv : Lib.itoa v = l
      · rw [if_pos hv] at h
        simp only [Prod.mk.injEq, and_true] at h
        subst h
        refine ⟨by simp [vcheck, he], ?_⟩
        unfold wr
        rw [if_pos rfl]
        exact hv
      · rw [if_neg hv] at h; simp at h
    | range => rw [hp] at h; simp at h
    | _ => rw [hp] at h; simp at h
end Go.Proofs.YtiobdkibbhpojaaDoor
