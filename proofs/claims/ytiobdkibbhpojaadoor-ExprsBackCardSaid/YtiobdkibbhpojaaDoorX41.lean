/- exprs, plain: what is written of an expression is read as it was. -/
import Derived.Test.YtiobdkibbhpojaaDoorX40
set_option linter.unusedVariables false
set_option linter.unusedSimpArgs false
namespace Go.Proofs.YtiobdkibbhpojaaDoor
open Go.RowKit Go.Sw

/-- An operator of two, between what is written. -/
def wrB (nm u v : List UInt8) : List UInt8 := u ++ 32 :: (nm ++ 32 :: v)
/-- An operator of one, as it is written. -/
def opT (nm : List UInt8) : List UInt8 := if nm = [110, 101, 103] then [45, 32] else if nm = [110, 111, 116] then [110, 111, 116, 32] else nm
/-- What is written of an expression, by how tightly what is around it holds. -/
def wrE : Ex → Int → List UInt8
  | .mk k nm t n s [], _ => if k = 1 then wr t n s.data.toList else nm.data.toList
  | .mk k nm t n s [x], _ => opT nm.toList ++ wrE x 6
  | .mk k nm t n s [x, y], ar => if levelL nm.toList < ar then 40 :: (wrB nm.toList (wrE x (levelL nm.toList)) (wrE y (levelL nm.toList + 1)) ++ [41]) else wrB nm.toList (wrE x (levelL nm.toList)) (wrE y (levelL nm.toList + 1))
  | _, _ => []
/-- An expression that is right. -/
inductive OkE : Ex → Prop
  | lit (t n : Int) (s : ByteArray) (hv : vcheck t n s = 0) (hn : rng n) : OkE (.mk 1 ⟨#[]⟩ t n s [])
  | name (w : ByteArray) (hw : isNameB w = true) : OkE (nameEx w)
  | one (nm : ByteArray) (x : Ex) (h : singleL nm.toList = true) (hx : OkE x) : OkE (.mk 3 nm 0 0 ⟨#[]⟩ [x])
  | two (nm : ByteArray) (x y : Ex) (h : 0 < levelL nm.toList) (hx : OkE x) (hy : OkE y) : OkE (.mk 3 nm 0 0 ⟨#[]⟩ [x, y])
theorem wrE_lit (t n : Int) (s : ByteArray) (k : Int) : wrE (.mk 1 ⟨#[]⟩ t n s []) k = wr t n s.data.toList := by rw [wrE, if_pos rfl]
theorem wrE_name (w : ByteArray) (k : Int) : wrE (nameEx w) k = w.data.toList := by unfold nameEx; rw [wrE, if_neg (by decide)]
theorem wrE_one (nm : ByteArray) (x : Ex) (k : Int) : wrE (.mk 3 nm 0 0 ⟨#[]⟩ [x]) k = opT nm.toList ++ wrE x 6 := by rw [wrE]
theorem wrE_two (nm : ByteArray) (x y : Ex) (k : Int) : wrE (.mk 3 nm 0 0 ⟨#[]⟩ [x, y]) k =
    if levelL nm.toList < k then 40 :: (wrB nm.toList (wrE x (levelL nm.toList)) (wrE y (levelL nm.toList + 1)) ++ [41]) else wrB nm.toList (wrE x (levelL nm.toList)) (wrE y (levelL nm.toList + 1)) := by rw [wrE]
theorem single_cases {l : List UInt8} (h : singleL l = true) : l = [110, 111, 116] ∨ l = [110, 101, 103] ∨ l = [35] := by
  unfold singleL at h
  simp only [Bool.or_eq_true, beq_iff_eq] at h
  rcases h with (h | h) | h
  · exact .inl h
  · exact .inr (.inl h)
  · exact .inr (.inr h)
theorem wrE_head {x : Ex} (h : OkE x) : ∀ k, ∃ c z, wrE x k = c :: z ∧ c.toNat ≠ 32 := by
  induction h with
  | lit t n s hv hn => intro k; rw [wrE_lit]; exact wr_pos t n _
  | name w hw =>
    intro k
    rw [wrE_name]
    obtain ⟨h1, h2⟩ := name_low hw
    cases e : w.data.toList with
    | nil => exact absurd e h2
    | cons c z =>
      refine ⟨c, z, rfl, fun q => ?_⟩
      have h3 := h1 c (by rw [e]; exact List.mem_cons_self ..)
      have := b_eq q (by decide)
      subst this
      exact absurd h3 (by decide)
  | one nm x h hx ih =>
    intro k
    rw [wrE_one]
    rcases single_cases h with e | e | e
    all_goals rw [e]
    · exact ⟨110, _, rfl, by decide⟩
    · exact ⟨45, _, rfl, by decide⟩
    · exact ⟨35, _, rfl, by decide⟩
  | two nm x y h hx hy ihx ihy =>
    intro k
    rw [wrE_two]
    split
    · exact ⟨40, _, rfl, by decide⟩
    · obtain ⟨c, z, e, hc⟩ := ihx (levelL nm.toList)
      exact ⟨c, _, by unfold wrB; rw [e, List.cons_append], hc⟩

section
variable {s : ByteArray}
/-- Reading at a comes to where it has read x up to b. -/
def Led (s : ByteArray) (j : Int) (a : Nat) (x : Ex) (b : Nat) : Prop := ∀ R, PLoop s j x b R → RdS s 93 [.d (iD j)] a R
theorem led_of_one (hs : s.size ≤ 2000) (j : Int) {a : Nat} (ha : a ≤ s.size) {x : Ex} {b : Nat} (hb : b ≤ s.size) (h1 : RdS s 125 [] a (.ok x b)) : Led s j a x b := fun R hR => by
  cases R with
  | ok z c => exact all_ok s hs j a ha x b hb h1 z c hR
  | no e c => exact all_no s hs j a ha x b hb h1 e c hR
end
def OneR (x : Ex) (k : Int) : Prop := ∀ (s : ByteArray), s.size ≤ 2000 → ∀ (a : Nat) (r : List UInt8), a ≤ s.size → Tl r → tl s (wAt s a) = wrE x k ++ r → RdS s 125 [] a (.ok x (wAt s a + (wrE x k).length))
def AllR (x : Ex) (k : Int) (T : List UInt8) : Prop := ∀ (s : ByteArray), s.size ≤ 2000 → ∀ (j : Int) (a : Nat) (r : List UInt8), j ≤ k → a ≤ s.size → Tl r → levT r ≤ k → tl s (wAt s a) = T ++ r →
  ∃ b, b ≤ s.size ∧ wAt s a ≤ b ∧ wAt s b = wAt s (wAt s a + T.length) ∧ Led s j a x b
theorem all_of_one {x : Ex} {k : Int} (h : OneR x k) : AllR x k (wrE x k) := fun s hs j a r hj ha hT hl ht => by
  have hle := tl_le ht (wAt_in s a ha).2
  exact ⟨_, hle, by omega, rfl, led_of_one hs j ha hle (h s hs a r ha hT ht)⟩
theorem lev_op {l : List UInt8} (h : ¬ levelL l = 0) (z : List UInt8) : levT (32 :: (l ++ 32 :: z)) = levelL l := by
  obtain ⟨h1, c, m, e, hc⟩ := op_word l h z
  have h2 : skipB (32 :: (l ++ 32 :: z)) = 1 := by
    rw [show skipB (32 :: (l ++ 32 :: z)) = skipB (l ++ 32 :: z) + 1 from by rw [skipB, if_pos (by decide)], e, List.cons_append, skipB_head hc]
  unfold levT
  rw [h2, List.drop_succ_cons, List.drop_zero, h1, pack_toList]
theorem lev_close (z : List UInt8) : levT (41 :: z) = 0 := by
  unfold levT
  rw [skipB_head (by decide), List.drop_zero, sign_word 41 z (by decide), pack_toList]
  decide
theorem lev_nil : levT [] = 0 := by decide +kernel
theorem two_read (nm : ByteArray) (x y : Ex) (h : 0 < levelL nm.toList) (hx : OkE x) (hy : OkE y) (ihx : AllR x (levelL nm.toList) (wrE x (levelL nm.toList))) (ihy : AllR y (levelL nm.toList + 1) (wrE y (levelL nm.toList + 1))) :
    AllR (.mk 3 nm 0 0 ⟨#[]⟩ [x, y]) (levelL nm.toList) (wrB nm.toList (wrE x (levelL nm.toList)) (wrE y (levelL nm.toList + 1))) := by
  intro s hs j a r hj ha hT hl ht
  obtain ⟨L, hL⟩ : ∃ L, levelL nm.toList = L := ⟨_, rfl⟩
  have hnm : nm.toList = nm.data.toList := Lib.toList_data nm
  rw [hL] at h ihx ihy hj hl ht ⊢
  have h0 : ¬ levelL nm.toList = 0 := by omega
  obtain ⟨u, hu⟩ : ∃ u, wrE x L = u := ⟨_, rfl⟩
  obtain ⟨v, hv⟩ : ∃ v, wrE y (L + 1) = v := ⟨_, rfl⟩
  obtain ⟨vc, vz, hv2, hvc⟩ := wrE_head hy (L + 1)
  rw [hv] at hv2
  obtain ⟨l, hll⟩ : ∃ l, nm.toList = l := ⟨_, rfl⟩
  rw [hu] at ihx ht ⊢
  rw [hv] at ihy ht ⊢
  rw [hll] at h0 hL ht ⊢
  have hsz : nm.size = l.length := by rw [← hll, hnm, Utf.sizeL]
  have hpk : packS l = nm := by rw [← hll, hnm]; exact back_list nm
  have hd1 : tl s (wAt s a) = u ++ 32 :: (l ++ 32 :: (v ++ r)) := by rw [ht]; simp [wrB]
  obtain ⟨b1, hb1, hb1a, e1, led1⟩ := ihx s hs j a _ hj ha (.inr ⟨_, .inl rfl⟩) (by rw [lev_op h0, hL]; exact Int.le_refl _) hd1
  have hp := tl_app hd1
  have hpl := tl_le hd1 (wAt_in s a ha).2
  generalize hP : wAt s a + u.length = p at hp hpl e1
  obtain ⟨hw1, c, m, hlc, hc⟩ := op_word l h0 (v ++ r)
  obtain ⟨hp0, hp1, -⟩ := tl_cons hp
  have hwp : wAt s p = p + 1 := by rw [wAt_blank hp]; exact wAt_here (l := m ++ 32 :: (v ++ r)) (by rw [hp1, hlc]; rfl) hc
  rw [hwp] at e1
  have hof : wOf s b1 = nm := by rw [wOf_eq, e1, hp1, hw1, hpk]
  have hlev : wLev s b1 = L := by unfold wLev; rw [hof, hll, hL]
  have hb1w := (wAt_in s b1 hb1).1
  have hp2 := tl_app hp1
  have hp2l := tl_le hp1 (by omega)
  obtain ⟨hq0, hq1, -⟩ := tl_cons hp2
  have hwa2 : wAt s (p + 1 + l.length) = p + 1 + l.length + 1 := by rw [wAt_blank hp2]; exact wAt_here (l := vz ++ r) (by rw [hq1, hv2]; rfl) hvc
  obtain ⟨b2, hb2, hb2a, e2, led2⟩ := ihy s hs (L + 1) (p + 1 + l.length) r (Int.le_refl _) hp2l hT (by omega) (by rw [hwa2]; exact hq1)
  have hq2 := tl_app hq1
  have hq2l := tl_le hq1 (by omega)
  rw [hwa2] at e2 hb2a
  have hlv2 : wLev s b2 = levT r := by
    rw [wLev_wAt s e2, wLev_eq, hq2]
  have hb2w := wAt_in s b2 hb2
  have hr2 : RdS s 93 [.d (iD (L + 1))] (p + 1 + l.length) (.ok y (wAt s b2)) := led2 _ (.stop y b2 (.inl (by rw [hlv2]; omega)))
  have hlen : wAt s a + (wrB l u v).length = p + 1 + l.length + 1 + v.length := by
    unfold wrB
    simp only [List.length_append, List.length_cons]
    omega
  refine ⟨wAt s b2, hb2w.2, by omega, ?_, fun R hR => led1 R (.more x b1 y (wAt s b2) R (by omega) (by omega) ?_ (by omega) hb2w.2 ?_)⟩
  · rw [wAt_wAt, e2, hlen]
  · rw [hlev, hof, e1, hsz]; exact hr2
  · rw [hof]; exact hR
theorem par_read (nm : ByteArray) (x y : Ex) (h : 0 < levelL nm.toList) (hx : OkE x) (hB : AllR (.mk 3 nm 0 0 ⟨#[]⟩ [x, y]) (levelL nm.toList) (wrB nm.toList (wrE x (levelL nm.toList)) (wrE y (levelL nm.toList + 1)))) (k : Int) (hk : levelL nm.toList < k) :
    OneR (.mk 3 nm 0 0 ⟨#[]⟩ [x, y]) k := by
  intro s hs a r ha hT ht
  rw [wrE_two, if_pos hk] at ht ⊢
  obtain ⟨c, z, e, hc⟩ := wrE_head hx (levelL nm.toList)
  obtain ⟨T, hTe⟩ : ∃ T, wrB nm.toList (wrE x (levelL nm.toList)) (wrE y (levelL nm.toList + 1)) = T := ⟨_, rfl⟩
  have hTh : ∃ z, T = c :: z := ⟨z ++ 32 :: (nm.toList ++ 32 :: wrE y (levelL nm.toList + 1)), by rw [← hTe]; unfold wrB; rw [e]; rfl⟩
  obtain ⟨z2, hz2⟩ := hTh
  rw [hTe] at hB ht ⊢
  have hd : tl s (wAt s a) = 40 :: (T ++ 41 :: r) := by rw [ht]; simp
  obtain ⟨h0, h1, -⟩ := tl_cons hd
  have hof : wOf s a = ⟨[40].toArray⟩ := by rw [wOf_eq, hd, sign_word 40 _ (by decide)]; rfl
  have hwa : wAt s (wAt s a + 1) = wAt s a + 1 := wAt_here (l := z2 ++ 41 :: r) (by rw [h1, hz2]; rfl) hc
  obtain ⟨b, hb, hba, eb, led⟩ := hB s hs 1 (wAt s a + 1) (41 :: r) (by omega) (by omega) (.inr ⟨r, .inr rfl⟩) (by rw [lev_close]; omega) (by rw [hwa]; exact h1)
  have hq := tl_app h1
  have hql := tl_le h1 (by omega)
  have hwq : wAt s (wAt s a + 1 + T.length) = wAt s a + 1 + T.length := wAt_here hq (by decide)
  rw [hwa, hwq] at eb
  have hlv : wLev s b = 0 := by rw [wLev_wAt s (b := wAt s a + 1 + T.length) (by rw [eb, hwq]), wLev_eq, hq, lev_close]
  have hr := led _ (.stop _ b (.inr hlv))
  rw [eb] at hr
  have hof2 : wOf s (wAt s a + 1 + T.length) = ⟨[41].toArray⟩ := by rw [wOf_eq, hwq, hq, sign_word 41 _ (by decide)]; rfl
  have := one_par s hs a ha (tok_ne (by rw [hof]; decide)) (tok_ne (by rw [hof]; decide)) (tok_ne (by rw [hof]; decide)) (by rw [hof]; exact tok_rfl _) (by omega) _ _ hql hr (by rw [hof2]; exact tok_rfl _)
  rw [hwq] at this
  have hlen : wAt s a + (40 :: (T ++ [41])).length = wAt s a + 1 + T.length + 1 := by simp only [List.length_cons, List.length_append, List.length_nil]; omega
  rw [hlen]
  exact this
theorem sgl_not (x : Ex) (hx : OkE x) (ih : OneR x 6) (k : Int) : OneR (.mk 3 ⟨#[110, 111, 116]⟩ 0 0 ⟨#[]⟩ [x]) k := by
  intro s hs a r ha hT ht
  have e0 : opT (ByteArray.toList ⟨#[110, 111, 116]⟩) = [110, 111, 116, 32] := by decide +kernel
  rw [wrE_one, e0] at ht ⊢
  obtain ⟨c, z, e, hc⟩ := wrE_head hx 6
  obtain ⟨T, hTe⟩ : ∃ T, wrE x 6 = T := ⟨_, rfl⟩
  rw [hTe] at ht e ⊢
  have hW := wAt_in s a ha
  have hd : tl s (wAt s a) = [110, 111, 116] ++ 32 :: (T ++ r) := by rw [ht]; rfl
  have hof : wOf s a = ⟨[110, 111, 116].toArray⟩ := by rw [wOf_eq, hd, word_low (by decide) (by decide) (Tl.drop (.inr ⟨_, .inl rfl⟩))]; rfl
  have hp : tl s (wAt s a + 3) = 32 :: (T ++ r) := tl_app hd
  have hpl : wAt s a + 3 ≤ s.size := tl_le hd hW.2
  obtain ⟨hp0, hp1, -⟩ := tl_cons hp
  have hwp : wAt s (wAt s a + 3) = wAt s a + 3 + 1 := by rw [wAt_blank hp]; exact wAt_here (l := z ++ r) (by rw [hp1, e]; rfl) hc
  have hr := ih s hs (wAt s a + 3) r hpl hT (by rw [hwp, hTe]; exact hp1)
  have h := one_not s hs a ha (by rw [hof]; exact tok_rfl _) (tok_ne (by rw [hof]; decide)) (by rw [hof]; rfl) hpl _ hr
  rw [hwp, hTe, hof] at h
  have hlen : wAt s a + ([110, 111, 116, 32] ++ T).length = wAt s a + 3 + 1 + T.length := by simp only [List.length_append, List.length_cons, List.length_nil]; omega
  rw [hlen]
  exact h
theorem sgl_neg (x : Ex) (hx : OkE x) (ih : OneR x 6) (k : Int) : OneR (.mk 3 ⟨#[110, 101, 103]⟩ 0 0 ⟨#[]⟩ [x]) k := by
  intro s hs a r ha hT ht
  have e0 : opT (ByteArray.toList ⟨#[110, 101, 103]⟩) = [45, 32] := by decide +kernel
  rw [wrE_one, e0] at ht ⊢
  obtain ⟨c, z, e, hc⟩ := wrE_head hx 6
  obtain ⟨T, hTe⟩ : ∃ T, wrE x 6 = T := ⟨_, rfl⟩
  rw [hTe] at ht e ⊢
  have hW := wAt_in s a ha
  have hd : tl s (wAt s a) = 45 :: 32 :: (T ++ r) := by rw [ht]; rfl
  have hof : wOf s a = ⟨[45].toArray⟩ := by rw [wOf_eq, hd, sign_word 45 _ (by decide)]; rfl
  obtain ⟨hp00, hp, -⟩ := tl_cons hd
  obtain ⟨hp0, hp1, hp2⟩ := tl_cons hp
  have hwp : wAt s (wAt s a + 1) = wAt s a + 1 + 1 := by rw [wAt_blank hp]; exact wAt_here (l := z ++ r) (by rw [hp1, e]; rfl) hc
  have hr := ih s hs (wAt s a + 1) r (by omega) hT (by rw [hwp, hTe]; exact hp1)
  have h := one_neg_a s hs a ha (tok_ne (by rw [hof]; decide)) (tok_ne (by rw [hof]; decide)) (by rw [hof]; exact tok_rfl _) (by rw [hof]; rfl) (by omega) hp0 (by rw [hp2]; decide) _ hr
  rw [hwp, hTe] at h
  have hlen : wAt s a + ([45, 32] ++ T).length = wAt s a + 1 + 1 + T.length := by simp only [List.length_append, List.length_cons, List.length_nil]; omega
  rw [hlen]
  exact h
theorem sgl_hash (x : Ex) (hx : OkE x) (ih : OneR x 6) (k : Int) : OneR (.mk 3 ⟨#[35]⟩ 0 0 ⟨#[]⟩ [x]) k := by
  intro s hs a r ha hT ht
  have e0 : opT (ByteArray.toList ⟨#[35]⟩) = [35] := by decide +kernel
  rw [wrE_one, e0] at ht ⊢
  obtain ⟨c, z, e, hc⟩ := wrE_head hx 6
  obtain ⟨T, hTe⟩ : ∃ T, wrE x 6 = T := ⟨_, rfl⟩
  rw [hTe] at ht e ⊢
  have hW := wAt_in s a ha
  have hd : tl s (wAt s a) = 35 :: (T ++ r) := by rw [ht]; rfl
  have hof : wOf s a = ⟨[35].toArray⟩ := by rw [wOf_eq, hd, sign_word 35 _ (by decide)]; rfl
  obtain ⟨hp0, hp1, -⟩ := tl_cons hd
  have hwp : wAt s (wAt s a + 1) = wAt s a + 1 := wAt_here (l := z ++ r) (by rw [hp1, e]; rfl) hc
  have hr := ih s hs (wAt s a + 1) r (by omega) hT (by rw [hwp, hTe]; exact hp1)
  have h := one_hash s hs a ha (tok_ne (by rw [hof]; decide)) (by rw [hof]; exact tok_rfl _) (tok_ne (by rw [hof]; decide)) (by rw [hof]; rfl) (by omega) _ hr
  rw [hwp, hTe, hof] at h
  have hlen : wAt s a + ([35] ++ T).length = wAt s a + 1 + T.length := by simp only [List.length_append, List.length_cons, List.length_nil]; omega
  rw [hlen]
  exact h
theorem sgl_read (nm : ByteArray) (x : Ex) (h : singleL nm.toList = true) (hx : OkE x) (ih : OneR x 6) (k : Int) : OneR (.mk 3 nm 0 0 ⟨#[]⟩ [x]) k := by
  have hnm : nm = packS nm.toList := by rw [Lib.toList_data]; exact (back_list nm).symm
  rcases single_cases h with q | q | q
  all_goals (rw [q] at hnm; subst hnm)
  · exact sgl_not x hx ih k
  · exact sgl_neg x hx ih k
  · exact sgl_hash x hx ih k
/-- What is written of an expression that is right is read. -/
theorem main_read {x : Ex} (h : OkE x) : OneR x 6 ∧ ∀ k, 1 ≤ k → k ≤ 6 → AllR x k (wrE x k) := by
  induction h with
  | lit t n s hv hn =>
    have h1 : ∀ k, OneR (.mk 1 ⟨#[]⟩ t n s []) k := fun k S hS a r ha hT ht => by
      rw [wrE_lit] at ht ⊢
      exact lit_read S hS t n s hv hn a ha r hT ht
    exact ⟨h1 6, fun k _ _ => all_of_one (h1 k)⟩
  | name w hw =>
    have h1 : ∀ k, OneR (nameEx w) k := fun k S hS a r ha hT ht => by
      rw [wrE_name] at ht ⊢
      exact name_read S hS w hw a ha r hT ht
    exact ⟨h1 6, fun k _ _ => all_of_one (h1 k)⟩
  | one nm x h hx ih => exact ⟨sgl_read nm x h hx ih.1 6, fun k _ _ => all_of_one (sgl_read nm x h hx ih.1 k)⟩
  | two nm x y h hx hy ihx ihy =>
    have hl := levelL_in nm.toList
    have hB := two_read nm x y h hx hy (ihx.2 _ (by omega) (by omega)) (ihy.2 _ (by omega) (by omega))
    refine ⟨par_read nm x y h hx hB 6 (by omega), fun k hk1 hk2 => ?_⟩
    by_cases hk : levelL nm.toList < k
    · exact all_of_one (par_read nm x y h hx hB k hk)
    · rw [wrE_two, if_neg hk]
      intro s hs j a r hj ha hT hlr ht
      exact hB s hs j a r (by omega) ha hT (by omega) ht
theorem wrE_0 {x : Ex} (h : OkE x) : wrE x 0 = wrE x 1 := by
  cases h with
  | lit t n s hv hn => rw [wrE_lit, wrE_lit]
  | name w hw => rw [wrE_name, wrE_name]
  | one nm x h hx => rw [wrE_one, wrE_one]
  | two nm x y h hx hy => rw [wrE_two, wrE_two, if_neg (by omega), if_neg (by omega)]
/-- All that is written of an expression that is right is read. -/
theorem read_back {x : Ex} (h : OkE x) (s : ByteArray) (hs : s.size ≤ 2000) (ht : s.data.toList = wrE x 0) : RdS s 93 [.d (iD 1)] 0 (.ok x s.size) := by
  obtain ⟨c, z, e, hc⟩ := wrE_head h 1
  rw [wrE_0 h] at ht
  have h0 : tl s 0 = wrE x 1 ++ [] := by rw [List.append_nil]; exact ht
  have hw : wAt s 0 = 0 := wAt_here (l := z) (by rw [h0, e, List.append_nil]) hc
  obtain ⟨b, hb, hba, eb, led⟩ := (main_read h).2 1 (by omega) (by omega) s hs 1 0 [] (by omega) (Nat.zero_le _) (.inl rfl) (by rw [lev_nil]; omega) (by rw [hw]; exact h0)
  have hl : (wrE x 1).length = s.size := by rw [← ht, Utf.sizeL]
  have hend : tl s s.size = [] := List.drop_of_length_le (by rw [Utf.sizeL]; exact Nat.le_refl _)
  rw [hw, Nat.zero_add, hl, wAt_end hend] at eb
  have hlv : wLev s b = 0 := by rw [wLev_wAt s (b := s.size) (by rw [eb, wAt_end hend]), wLev_eq, hend, lev_nil]
  have hr := led _ (.stop _ b (.inr hlv))
  rw [eb] at hr
  exact hr
theorem bare_of {t n : Int} {s : ByteArray} (h : bareB t n s = true) : t = 0 ∧ n = 0 ∧ s = ⟨#[]⟩ := by
  unfold bareB at h
  simp only [Bool.and_eq_true, beq_iff_eq] at h
  exact ⟨h.1.1, h.1.2, empty_of h.2⟩
/-- What Check lets pass is right. -/
theorem ok_of_chk (N : Nat) : ∀ (x : Ex), x.size ≤ N → ∀ left, (chk x left).1 = 0 → x.rng → OkE x := by
  induction N with
  | zero => intro x hx; have := x.size_pos; omega
  | succ N ih =>
    rintro ⟨k, nm, t, n, s, l⟩ hsz left hc hr
    have hs2 : Ex.sizes l ≤ N := by simp only [Ex.size] at hsz; omega
    unfold Ex.rng at hr
    unfold chk at hc
    split at hc
    · simp at hc
    split at hc
    · rename_i h
      obtain ⟨rfl, h2, h3⟩ := h
      obtain rfl := empty_of h2
      obtain rfl := List.eq_nil_of_length_eq_zero h3
      exact .lit t n s hc hr.1
    split at hc
    · rename_i h
      obtain ⟨rfl, h2, h3, h4⟩ := h
      obtain ⟨rfl, rfl, rfl⟩ := bare_of h2
      obtain rfl := List.eq_nil_of_length_eq_zero h3
      exact .name nm h4
    split at hc
    · rename_i h
      obtain ⟨rfl, h2, h3⟩ := h
      obtain ⟨rfl, rfl, rfl⟩ := bare_of h2
      unfold opB at h3
      simp only [Bool.or_eq_true, Bool.and_eq_true, beq_iff_eq, decide_eq_true_eq] at h3
      rcases h3 with ⟨h3, h4⟩ | ⟨h3, h4⟩
      · match l, h4 with
        | [x], _ =>
          simp only [Ex.sizes] at hs2
          unfold chks at hc
          have hc : (chk x (left - 1)).1 = 0 := by
            split at hc
            · rename_i q; exact absurd hc q
            · rename_i q; exact Classical.not_not.1 q
          have hr2 := hr.2
          unfold Ex.rngs at hr2
          exact .one nm x h3 (ih x (by omega) _ hc hr2.1)
      · match l, h4 with
        | [x, y], _ =>
          simp only [Ex.sizes] at hs2
          unfold chks at hc
          have hr2 := hr.2
          unfold Ex.rngs at hr2
          have hr3 := hr2.2
          unfold Ex.rngs at hr3
          split at hc
          · rename_i q; exact absurd hc q
          · rename_i q
            unfold chks at hc
            have hc2 : (chk y (chk x (left - 1)).2).1 = 0 := by
              split at hc
              · rename_i q; exact absurd hc q
              · rename_i q; exact Classical.not_not.1 q
            exact .two nm x y h3 (ih x (by omega) _ (Classical.not_not.1 q) hr2.1) (ih y (by omega) _ hc2 hr3.1)
    · simp at hc
theorem ok_of_check {x : Ex} (h : eCheck x = 0) (hr : x.rng) : OkE x := ok_of_chk _ x (Nat.le_refl _) 60 h hr
mutual
theorem chkZ : ∀ (x : Ex) (a : Int), (chk x a).1 = 0 → (chk x a).2 ≤ a - x.size
  | .mk k nm t n s l, a, h => by
    have n0 : l.length = 0 → Ex.sizes l = 0 := fun h => by
      have := List.eq_nil_of_length_eq_zero h
      subst this; rfl
    unfold chk at h ⊢
    unfold Ex.size
    by_cases c0 : a - 1 < 0
    · rw [if_pos c0] at h; simp at h
    · rw [if_neg c0] at h ⊢
      by_cases c2 : k = 1 ∧ nm.toList = [] ∧ l.length = 0
      · rw [if_pos c2, n0 c2.2.2]; simp
      · rw [if_neg c2] at h ⊢
        by_cases c3 : k = 2 ∧ bareB t n s = true ∧ l.length = 0 ∧ isNameB nm = true
        · rw [if_pos c3, n0 c3.2.2.1]; simp
        · rw [if_neg c3] at h ⊢
          by_cases c4 : k = 3 ∧ bareB t n s = true ∧ opB nm l.length = true
          · rw [if_pos c4] at h ⊢
            have := chksZ l (a - 1) h
            omega
          · rw [if_neg c4] at h; simp at h
theorem chksZ : ∀ (l : List Ex) (a : Int), (chks l a).1 = 0 → (chks l a).2 ≤ a - Ex.sizes l
  | [], a, h => by simp [chks, Ex.sizes]
  | x :: l, a, h => by
    unfold chks at h ⊢
    unfold Ex.sizes
    by_cases c : (chk x a).1 ≠ 0
    · rw [if_pos c] at h; exact absurd h c
    · have c' : (chk x a).1 = 0 := by omega
      rw [if_neg c] at h ⊢
      have h1 := chkZ x a c'
      have h2 := chksZ l _ h
      omega
end
theorem size_of_check {x : Ex} (h : eCheck x = 0) : x.size ≤ 60 := by
  have h1 := chkZ x 60 h
  have h2 := (chk_left x 60 (by omega) (by omega)).2.2 h
  omega
end Go.Proofs.YtiobdkibbhpojaaDoor
