/- The law ValuesOrder returns true for every three values, and nothing that was there is changed. No conditions. -/
import Derived.Test.YtiobdkibbhpojaaDoorFrame
import Derived.Test.YtiobdkibbhpojaaDoorL1
namespace Go.Proofs.YtiobdkibbhpojaaDoor.LVO
set_option linter.unusedSimpArgs false
open Go.RowKit Go.ChangeShapes Go.WideShapes Go.ChangeAt

theorem bl_irrefl : ∀ l : List UInt8, Op.bytesLess l l = false
  | [] => rfl
  | a :: l => by simp [Op.bytesLess, bl_irrefl l]
theorem bl_asymm : ∀ l m : List UInt8, Op.bytesLess l m = true → Op.bytesLess m l = false
  | [], [], _ => rfl
  | [], _ :: _, _ => rfl
  | _ :: _, [], h => by simp [Op.bytesLess] at h
  | a :: l, b :: m, h => by
    simp only [Op.bytesLess, Bool.or_eq_true, decide_eq_true_eq, Bool.and_eq_true, beq_iff_eq, UInt8.lt_iff_toNat_lt, Bool.or_eq_false_iff, decide_eq_false_iff_not, Bool.and_eq_false_iff, beq_eq_false_iff_ne, ne_eq] at h ⊢
    rcases h with h | ⟨rfl, h⟩
    · exact ⟨by omega, Or.inl (fun e => by subst e; omega)⟩
    · exact ⟨by omega, Or.inr (bl_asymm l m h)⟩
theorem bl_total : ∀ l m : List UInt8, Op.bytesLess l m = false → l ≠ m → Op.bytesLess m l = true
  | [], [], _, h => absurd rfl h
  | [], _ :: _, h, _ => by simp [Op.bytesLess] at h
  | _ :: _, [], _, _ => rfl
  | a :: l, b :: m, h, hne => by
    simp only [Op.bytesLess, Bool.or_eq_true, decide_eq_true_eq, Bool.and_eq_true, beq_iff_eq, UInt8.lt_iff_toNat_lt, Bool.or_eq_false_iff, decide_eq_false_iff_not, Bool.and_eq_false_iff, beq_eq_false_iff_ne, ne_eq] at h ⊢
    by_cases e : a = b
    · subst e
      refine Or.inr ⟨rfl, bl_total l m ?_ (fun e => hne (by rw [e]))⟩
      rcases h.2 with h2 | h2
      · exact absurd rfl h2
      · exact h2
    · have : a.toNat ≠ b.toNat := fun h => e (UInt8.toNat.inj h)
      exact Or.inl (by omega)
theorem bl_trans : ∀ l m k : List UInt8, Op.bytesLess l m = true → Op.bytesLess m k = true → Op.bytesLess l k = true
  | _, [], _, h, _ => by cases ‹List UInt8› <;> simp [Op.bytesLess] at h
  | _, _ :: _, [], _, h => by simp [Op.bytesLess] at h
  | [], _ :: _, _ :: _, _, _ => rfl
  | a :: l, b :: m, c :: k, h1, h2 => by
    simp only [Op.bytesLess, Bool.or_eq_true, decide_eq_true_eq, Bool.and_eq_true, beq_iff_eq, UInt8.lt_iff_toNat_lt] at h1 h2 ⊢
    rcases h1 with h1 | ⟨rfl, h1⟩
    · rcases h2 with h2 | ⟨rfl, h2⟩
      · exact Or.inl (by omega)
      · exact Or.inl h1
    · rcases h2 with h2 | ⟨rfl, h2⟩
      · exact Or.inl h2
      · exact Or.inr ⟨rfl, bl_trans l m k h1 h2⟩

theorem cmpS_neg (x y : ByteArray) : cmpS y x = - cmpS x y := by
  unfold cmpS
  by_cases h : Op.bytesLess x.toList y.toList = true
  · have h2 := bl_asymm _ _ h
    have hne : y.toList ≠ x.toList := fun e => by rw [e, bl_irrefl] at h; cases h
    simp [h, h2, hne]
  · have h' : Op.bytesLess x.toList y.toList = false := by simpa using h
    by_cases e : x.toList = y.toList
    · simp [e, bl_irrefl]
    · simp [h', e, bl_total _ _ h' e]
theorem cmpS_zero (x y : ByteArray) : cmpS x y = 0 ↔ x.toList = y.toList := by
  unfold cmpS
  by_cases h : Op.bytesLess x.toList y.toList = true
  · have hne : x.toList ≠ y.toList := fun e => by rw [e, bl_irrefl] at h; cases h
    simp [h, hne]
  · simp [h]
theorem cmpS_one (x y : ByteArray) : cmpS x y = -1 ∨ cmpS x y = 0 ∨ cmpS x y = 1 := by
  unfold cmpS
  (repeat' split) <;> simp
theorem cmpS_lt (x y : ByteArray) : cmpS x y = -1 ↔ Op.bytesLess x.toList y.toList = true := by
  unfold cmpS
  (repeat' split) <;> simp_all

theorem vord_neg (t n t' n' : Int) (s s' : ByteArray) : vord t' n' s' t n s = - vord t n s t' n' s' := by
  have := cmpS_neg s s'
  unfold vord or3 cmpI
  rw [this]
  (repeat' split) <;> omega
theorem vord_one (t n t' n' : Int) (s s' : ByteArray) : vord t n s t' n' s' = -1 ∨ vord t n s t' n' s' = 0 ∨ vord t n s t' n' s' = 1 := by
  have := cmpS_one s s'
  unfold vord or3 cmpI
  (repeat' split) <;> omega
theorem vord_zero (t n t' n' : Int) (s s' : ByteArray) : vord t n s t' n' s' = 0 ↔ t = t' ∧ n = n' ∧ s.toList = s'.toList := by
  have := cmpS_zero s s'
  unfold vord or3 cmpI
  constructor
  · intro h
    refine ⟨?_, ?_, this.1 ?_⟩ <;> ((repeat' split at h) <;> omega)
  · rintro ⟨rfl, rfl, h⟩
    simp [this.2 h]
theorem vord_trans (t n t' n' t'' n'' : Int) (s s' s'' : ByteArray) (h1 : vord t n s t' n' s' ≤ 0) (h2 : vord t' n' s' t'' n'' s'' ≤ 0) :
    vord t n s t'' n'' s'' = min (vord t n s t' n' s') (vord t' n' s' t'' n'' s'') := by
  have a1 := cmpS_one s s'
  have a2 := cmpS_one s' s''
  have a3 := cmpS_one s s''
  have z1 := cmpS_zero s s'
  have z2 := cmpS_zero s' s''
  have z3 := cmpS_zero s s''
  have l1 := cmpS_lt s s'
  have l2 := cmpS_lt s' s''
  have l3 := cmpS_lt s s''
  have key : cmpS s s' ≤ 0 → cmpS s' s'' ≤ 0 → cmpS s s'' = min (cmpS s s') (cmpS s' s'') := by
    intro b1 b2
    rcases a1 with c1 | c1 | c1
    · rcases a2 with c2 | c2 | c2
      · rw [l3.2 (bl_trans _ _ _ (l1.1 c1) (l2.1 c2)), c1, c2]; rfl
      · have : cmpS s s'' = -1 := l3.2 (by rw [← z2.1 c2]; exact l1.1 c1)
        rw [this, c1, c2]; rfl
      · omega
    · have e := z1.1 c1
      have : cmpS s s'' = cmpS s' s'' := by unfold cmpS; rw [e]
      rw [this, c1]; omega
    · omega
  clear z1 z2 z3 l1 l2 l3
  unfold vord or3 cmpI at *
  by_cases ht1 : t < t'
  · have e1 : ¬ t' < t := by omega
    rcases Int.lt_trichotomy t' t'' with h | h | h
    · have : t < t'' := by omega
      simp_all
    · subst h; simp_all
      (repeat' split) <;> omega
    · have : ¬ t' < t'' := by omega
      simp_all
  · by_cases ht2 : t' < t
    · simp_all
    · have e : t = t' := by omega
      subst e
      simp only [Int.lt_irrefl, if_false, ne_eq, not_true_eq_false] at h1 ⊢
      by_cases hk : t < t''
      · have : ¬ t'' < t := by omega
        simp_all
        (repeat' split) <;> omega
      · by_cases hk2 : t'' < t
        · simp_all
        · have e : t = t'' := by omega
          subst e
          simp only [Int.lt_irrefl, if_false, ne_eq, not_true_eq_false] at h2 ⊢
          by_cases hn1 : n < n'
          · have e1 : ¬ n' < n := by omega
            rcases Int.lt_trichotomy n' n'' with h | h | h
            · have : n < n'' := by omega
              simp_all
            · subst h; simp_all
              (repeat' split) <;> omega
            · have : ¬ n' < n'' := by omega
              simp_all
          · by_cases hn2 : n' < n
            · simp_all
            · have e : n = n' := by omega
              subst e
              simp only [Int.lt_irrefl, if_false, ne_eq, not_true_eq_false] at h1 ⊢
              by_cases hk : n < n''
              · have : ¬ n'' < n := by omega
                simp_all
                (repeat' split) <;> omega
              · by_cases hk2 : n'' < n
                · simp_all
                · have e : n = n'' := by omega
                  subst e
                  simp only [Int.lt_irrefl, if_false, ne_eq, not_true_eq_false] at h2 ⊢
                  exact key h1 h2

theorem valid_string : Said.ValidString := fun s w hs ht => Tryd.utf8_ValidString s w hs ht

theorem walk (t n t' n' t'' n'' : Int) (s s' s'' : ByteArray) (w : World) (ht : Tabs w) :
    Calls Tryd.prog 3 #[vv t n s, vv t' n' s', vv t'' n'' s''] w fun e w' => e = .returned (.bool true) ∧ Below w.heap.size w w' := by
  have ord : ∀ (t n t' n' : Int) (s s' : ByteArray), OrdSaid (vv t n s) (vv t' n' s') (ordN (vcheck t n s) (vcheck t' n' s') (vord t n s t' n' s')) (ordE (vcheck t n s) (vcheck t' n' s')) :=
    fun t n t' n' s s' w ht => order_any valid_string t n t' n' s s' w ht
  have he : (⟨#[]⟩ : ByteArray).toList = [] := by decide +kernel
  have h12 : OrdSaid (vv 1 1 ⟨#[]⟩) (vv 1 2 ⟨#[]⟩) (-1) 0 := by
    have := ord 1 1 1 2 ⟨#[]⟩ ⟨#[]⟩
    have e1 : vcheck 1 1 ⟨#[]⟩ = 0 := by simp [vcheck, he]
    have e2 : vcheck 1 2 ⟨#[]⟩ = 0 := by simp [vcheck, he]
    have e3 : vord 1 1 ⟨#[]⟩ 1 2 ⟨#[]⟩ = -1 := by simp [vord, or3, cmpI]
    rw [e1, e2, e3] at this
    exact this
  refine law_order t n t' n' t'' n'' _ _ _ _ _ _ _ _ s s' s'' w ht h12 (ord _ _ _ _ _ _) (ord _ _ _ _ _ _) (ord _ _ _ _ _ _) (ord _ _ _ _ _ _) ?_ ?_ ?_ ?_ ?_
  · have := vord_one t n t' n' s s'
    unfold ordN
    (repeat' split) <;> omega
  · have := vord_one t' n' t'' n'' s' s''
    unfold ordN
    (repeat' split) <;> omega
  · intro h
    have := vord_one t n t' n' s s'
    unfold ordN ordE at *
    (repeat' split at h) <;> simp_all
  · intro h
    have h1 : vcheck t n s = 0 ∧ vcheck t' n' s' = 0 := by
      unfold ordE at h
      split at h <;> omega
    simp only [ordN, h1.1, h1.2, ne_eq, not_true_eq_false, if_false]
    exact ⟨vord_neg _ _ _ _ _ _, vord_zero _ _ _ _ _ _⟩
  · intro h g
    have h1 : vcheck t n s = 0 ∧ vcheck t' n' s' = 0 := by
      unfold ordE at h
      split at h <;> omega
    have h2 : vcheck t'' n'' s'' = 0 := by
      unfold ordE at g
      split at g <;> omega
    simp only [ordN, ordE, h1.1, h1.2, h2, ne_eq, not_true_eq_false, if_false]
    exact ⟨trivial, vord_trans _ _ _ _ _ _ _ _ _⟩

set_option maxRecDepth 100000 in
theorem contract (H : Type) (enc : TypeId × Value → H) (W : World) (base : Nat) (args : Array Value) (ds gs : List (DataW H)) (before : List MemPlace)
    (hval : ∀ (j : Nat) t v, Tryd.f3.params[j]? = some t → args[j]? = some v → Value.okWide Tryd.prog W .any base t v)
    (hW : DataW.Whole enc Tryd.prog Tryd.f3.params.toList Rows.valuesOrderSpec.vars false W args.toList ds gs before) (hL : laidMetH Tryd.prog Rows.valuesOrderRow.laid W) :
    Calls Tryd.prog 3 args W fun e W' => ∃ v, e = .returned v ∧ Rows.valuesOrderSpec.post enc Tryd.prog Tryd.f3 false true false false W args v W' := by
  have hW' := hW
  obtain ⟨p, q, hA0, hV, rfl, hfz, hnd⟩ := hW
  have hA : DataW.TrodAll enc Tryd.prog W 0 (fun _ => true) true Tryd.f3.params.toList args.toList ds p := hA0
  rw [Tryd.params3] at hA hval
  obtain ⟨v0, vs0, d0, ds0, p0, q0, hargs, rfl, rfl, h0, r0⟩ := trodAll_cons hA
  obtain ⟨v1, vs1, d1, ds1, p1, q1, rfl, rfl, rfl, h1, r1⟩ := trodAll_cons r0
  obtain ⟨v2, vs2, d2, ds2, p2, q2, rfl, rfl, rfl, h2, r2⟩ := trodAll_cons r1
  obtain ⟨rfl, rfl, rfl⟩ := trodAll_nil r2
  obtain rfl : args = #[v0, v1, v2] := by cases args; simp_all
  obtain ⟨rfl, rfl⟩ := trodVars_none hV
  have k0 := h0
  have k1 := h1
  have k2 := h2
  obtain ⟨t0, n0, s0, rfl, -⟩ := open_value (hval 0 23 v0 rfl rfl) h0
  obtain ⟨t1, n1, s1, rfl, -⟩ := open_value (hval 1 23 v1 rfl rfl) h1
  obtain ⟨t2, n2, s2, rfl, -⟩ := open_value (hval 2 23 v2 rfl rfl) h2
  clear hA0
  have hT : Tabs W := tabs_of (by kernel_rfl) hL (by simp [Rows.valuesOrderRow]) (by simp [Rows.valuesOrderRow])
  refine (walk t0 n0 t1 n1 t2 n2 s0 s1 s2 W hT).mono fun e W' ⟨he, bel⟩ => ?_
  subst he
  exact ⟨_, rfl, _, _, _, [], _, [], hW', trodAll_mk1 (shut_bool Tryd.underlying4 _), (trodAll_cons_mk (Below.trod laidOut (by kernel_rfl) (of_decide_eq_true (by kernel_rfl)) k0 bel (trod_lt_of k0)) (trodAll_cons_mk (Below.trod laidOut (by kernel_rfl) (of_decide_eq_true (by kernel_rfl)) k1 bel (trod_lt_of k1)) (trodAll_cons_mk (Below.trod laidOut (by kernel_rfl) (of_decide_eq_true (by kernel_rfl)) k2 bel (trod_lt_of k2)) trodAll_mk0))), rfl, bel.frame _, fun h => by cases h⟩

theorem reads0 (os : Os) {H : Type} (enc : TypeId × Value → H) : (DataW.whole enc Tryd.prog ((World.laidAll Tryd.prog os Rows.valuesOrderRow.laid).forCall (fun _ _ => 0) ⟨#[], #[vv 0 0 ⟨#[]⟩, vv 0 0 ⟨#[]⟩, vv 0 0 ⟨#[]⟩], []⟩).memory Tryd.f3.params.toList Rows.valuesOrderSpec.vars false #[vv 0 0 ⟨#[]⟩, vv 0 0 ⟨#[]⟩, vv 0 0 ⟨#[]⟩].toList 8).isSome = true := by kernel_rfl
theorem reads (os : Os) {H : Type} (enc : TypeId × Value → H) : ∃ x, DataW.whole enc Tryd.prog ((World.laidAll Tryd.prog os Rows.valuesOrderRow.laid).forCall (fun _ _ => 0) ⟨#[], #[vv 0 0 ⟨#[]⟩, vv 0 0 ⟨#[]⟩, vv 0 0 ⟨#[]⟩], []⟩).memory Tryd.f3.params.toList Rows.valuesOrderSpec.vars false #[vv 0 0 ⟨#[]⟩, vv 0 0 ⟨#[]⟩, vv 0 0 ⟨#[]⟩].toList 8 = some x :=
  Option.isSome_iff_exists.1 (reads0 os enc)

set_option maxRecDepth 100000 in
theorem lifted (os : Os) (started : os.Started) (H : Type) (enc : TypeId × Value → H) (F : Stop.Interp) :
    ReturnsInHanded {} Tryd.checked os 3 .any ((OpenSpec.ofChange Rows.valuesOrderSpec).preRow enc Tryd.prog Tryd.f3 Rows.valuesOrderRow.domain false Rows.valuesOrderRow.laid) (((OpenSpec.ofChange Rows.valuesOrderSpec).at F).post enc Tryd.prog Tryd.f3 false true false false) := by
  obtain ⟨x, hx⟩ := reads os enc
  refine returnsInHanded_of_row (C := Tryd.checked) (s := OpenSpec.ofChange Rows.valuesOrderSpec) own started (by kernel_rfl) Tryd.func3
    (witness_laid (enc := enc) (C := Tryd.checked) #[vv 0 0 ⟨#[]⟩, vv 0 0 ⟨#[]⟩, vv 0 0 ⟨#[]⟩] (World.shaped_of_ZipB (by kernel_rfl) (by kernel_rfl)) (by kernel_rfl)
      (OpenSpec.preRow_of_cond 8 hx (by kernel_rfl) (fun k hk => by cases hk) (by kernel_rfl) (by rw [MakeChecks.laidMetH_plain _ _ _ (by kernel_rfl)]; exact laidMet_laidAll _ (by kernel_rfl) (by kernel_rfl)))) ?_
  intro W base args ds gs before hval hW _ _ _ hL _ _
  exact contract H enc W base args ds gs before hval hW hL

theorem said : Rows.ValuesOrderSaid :=
  OpenClaim.holds_of_cond 3 Tryd.f3 rfl rfl rfl rfl rfl rfl rfl ⟨rfl, rfl, rfl, rfl, rfl⟩ rfl rfl rfl rfl rfl (by kernel_rfl) Tryd.func3 (by kernel_rfl)
    (of_decide_eq_true (by kernel_rfl)) (by unfold Func.isWrapper; first | (rw [if_pos (by decide +kernel)]; kernel_rfl) | (rw [if_neg (by decide +kernel)]; exact ⟨rfl, rfl⟩))
    (fun os started H enc _ F => by rw [OpenClaim.pre_eq_preRow]; exact lifted os started H enc F)

theorem plain (f : FuncId) (fn : Func) (hf : Tryd.pinned.checked.prog.funcNamed Rows.valuesOrderRow.func = some f) (hfn : Tryd.pinned.checked.prog.funcs[f]? = some fn) :
    true = Tryd.pinned.checked.prog.looks [] ∧ ∀ (j : Nat) t, fn.params[j]? = some t → Tryd.pinned.checked.prog.wantsStandIn t = false := by
  obtain rfl : f = 3 := Option.some.inj ((show Tryd.prog.funcNamed Rows.valuesOrderRow.func = some 3 by kernel_rfl).symm.trans hf) |>.symm
  obtain rfl : fn = Tryd.f3 := (Option.some.inj (Tryd.func3.symm.trans hfn)).symm
  refine ⟨by kernel_rfl, fun j t ht => ?_⟩
  rw [Tryd.params3] at ht
  have hm : t ∈ [23] := by simpa using Array.mem_of_getElem? ht
  have hall : ([23].all fun u => !Tryd.prog.wantsStandIn u) = true := by kernel_rfl
  exact (show Tryd.prog.wantsStandIn t = false by simpa using List.all_eq_true.1 hall t hm)

/-- THE CARD. -/
theorem card : Rows.ValuesOrderCardSaid :=
  Claim7.holds_tied_plain_at .later [] _ _ _ _ said (fun _ h => by cases h) (by kernel_rfl) (fun _ h => by cases h) valuesOrder_row_tie rfl ⟨rfl, rfl⟩ (by kernel_rfl) rfl plain (by kernel_rfl)
#print axioms card
end Go.Proofs.YtiobdkibbhpojaaDoor.LVO
