/- The law ValuesJoin returns true for every two values, and nothing that was there is changed. No conditions. -/
import Derived.Test.YtiobdkibbhpojaaDoorFrame
import Derived.Test.YtiobdkibbhpojaaDoorL2
namespace Go.Proofs.YtiobdkibbhpojaaDoor.LVJ
set_option linter.unusedSimpArgs false
set_option linter.unusedVariables false
open Go.RowKit Go.ChangeShapes Go.WideShapes Go.ChangeAt

theorem valid_string : Said.ValidString := fun s w hs ht => Tryd.utf8_ValidString s w hs ht
theorem rune_count : Said.RuneCount := fun s w hs => (Tryd.utf8_RuneCountInString s w hs).mono fun e w' ⟨h, pos, hp⟩ => ⟨h, by subst hp; exact (Below.refl _ _).alloc (Nat.le_refl _) _⟩

/-- what text lets by. -/
theorem text_one {t n : Int} {s : ByteArray} (h : textE [⟨t, n, s⟩] = 0) : t = 3 ∧ n = 0 ∧ s.size ≤ 100 ∧ Lib.validD s.data.toList = true := by
  simp only [textE, Va.bad, vcheck] at h
  (repeat' split at h) <;> simp_all <;> omega
theorem text_of {s : ByteArray} (h1 : s.size ≤ 100) (h2 : Lib.validD s.data.toList = true) : textE [⟨3, 0, s⟩] = 0 := by
  have : ¬ (100 : Int) < (s.size : Int) := by omega
  simp [textE, Va.bad, vcheck, h2, this]
theorem text_two {u v : Va} : textE [u, v] = if textE [u] ≠ 0 then textE [u] else textE [v] := by
  simp only [textE]
  (repeat' split) <;> simp_all

/-- the letters of a text. -/
theorem text_out {s : ByteArray} (h : Lib.validD s.data.toList = true) : ∃ cs : List Nat, (∀ c ∈ cs, Utf.good c) ∧ s = strL (Utf.encs cs) := by
  obtain ⟨cs, h1, h2⟩ := Utf.valid_out _ h
  exact ⟨cs, h1, strL_eq h2⟩
theorem text_in {cs : List Nat} (hg : ∀ c ∈ cs, Utf.good c) : Lib.validD (strL (Utf.encs cs)).data.toList = true := by
  rw [strL_list]; exact Utf.valid_encs cs hg
theorem strL_size (l : List UInt8) : (strL l).size = l.length := by rw [← Utf.sizeL, strL_list]
theorem strL_app (a b : List UInt8) : strL a ++ strL b = strL (a ++ b) := strL_eq (by simp [strL_list])
theorem rev_good {cs : List Nat} (hg : ∀ c ∈ cs, Utf.good c) : ∀ c ∈ cs.reverse, Utf.good c := fun c hc => hg c (by simpa using hc)
theorem encs_rev_len (cs : List Nat) : (Utf.encs cs.reverse).length = (Utf.encs cs).length := by
  induction cs with
  | nil => rfl
  | cons c cs ih => rw [List.reverse_cons]; simp only [Utf.encs_append, Utf.encs_cons, Utf.encs_nil, List.length_append, ih, List.append_nil]; omega

abbrev T (cs : List Nat) : ByteArray := strL (Utf.encs cs)

theorem turn (cs : List Nat) (hg : ∀ c ∈ cs, Utf.good c) (hl : (Utf.encs cs).length ≤ 100) : TurnSaid (vv 3 0 (T cs)) (vv 3 0 (T cs.reverse)) 0 := fun w ht =>
  turned_ok valid_string (T cs) cs hg (strL_list _) (by rw [strL_size]; exact hl) (text_of (by rw [strL_size]; exact hl) (text_in hg)) w ht
theorem len (cs : List Nat) (hg : ∀ c ∈ cs, Utf.good c) (hl : (Utf.encs cs).length ≤ 100) : LenSaid (vv 3 0 (T cs)) cs.length 0 := fun w ht => by
  have h := length_any valid_string rune_count 3 0 (T cs) (by rw [strL_size]; unfold maxLen; omega) w ht
  rw [text_of (by rw [strL_size]; exact hl) (text_in hg), Utf.count_encs (T cs) cs hg (strL_list _)] at h
  exact h
theorem join (a b : List Nat) (ha : ∀ c ∈ a, Utf.good c) (hb : ∀ c ∈ b, Utf.good c) (la : (Utf.encs a).length ≤ 100) (lb : (Utf.encs b).length ≤ 100) :
    JoinSaid (vv 3 0 (T a)) (vv 3 0 (T b)) (vv 3 0 (strL (cutS (Utf.encs (a ++ b))))) 0 := fun w ht => by
  have e1 := text_of (s := T a) (by rw [strL_size]; exact la) (text_in ha)
  have e2 := text_of (s := T b) (by rw [strL_size]; exact lb) (text_in hb)
  have e : (T a ++ T b).data.toList = Utf.encs (a ++ b) := by rw [strL_app, strL_list, Utf.encs_append]
  have h := joined_ok valid_string 3 0 3 0 (T a) (T b) (by rw [text_two, e1, e2]; simp) (by rw [strL_size]; exact la) (by rw [strL_size]; exact lb) (fun hbig => by
    rw [e]
    have hne : 0 < (Utf.encs (a ++ b)).length := by rw [← e, Utf.sizeL]; omega
    refine Utf.start_first (a ++ b) (fun c hc => by rcases List.mem_append.1 hc with h | h; exact ha c h; exact hb c h) _ ?_
    rw [List.getElem?_eq_getElem hne]
    simp [List.getD, hne]) w ht
  rw [e] at h
  exact h

theorem cutAt_le (l : List UInt8) : ∀ n, cutAt l n ≤ n
  | 0 => Nat.le_refl _
  | n + 1 => by
    unfold cutAt
    split
    · exact Nat.le_refl _
    · have := cutAt_le l n; omega
theorem cutAt_start (l : List UInt8) (h0 : Utf.startB (l.getD 0 0) = true) : ∀ n, Utf.startB (l.getD (cutAt l n) 0) = true
  | 0 => h0
  | n + 1 => by
    unfold cutAt
    split
    · assumption
    · exact cutAt_start l h0 n
theorem cutAt_ge (l : List UInt8) (k : Nat) (hk : Utf.startB (l.getD k 0) = true) : ∀ n, k ≤ n → k ≤ cutAt l n
  | 0, h => h
  | n + 1, h => by
    unfold cutAt
    split
    · exact h
    · rename_i hn
      rcases Nat.lt_or_ge k (n + 1) with h1 | h1
      · exact cutAt_ge l k hk n (by omega)
      · have : k = n + 1 := by omega
        subst this
        exact absurd hk hn

/-- What is joined: whole letters, all of the first one's. -/
theorem cut_joined (a b : List Nat) (ha : ∀ c ∈ a, Utf.good c) (hb : ∀ c ∈ b, Utf.good c) (la : (Utf.encs a).length ≤ 100) :
    ∃ k, cutS (Utf.encs (a ++ b)) = Utf.encs (a ++ b.take k) ∧ (Utf.encs (a ++ b.take k)).length ≤ 100 ∧ ((Utf.encs (a ++ b)).length ≤ 100 → b.take k = b) := by
  have hg : ∀ c ∈ a ++ b, Utf.good c := fun c hc => by rcases List.mem_append.1 hc with h | h; exact ha c h; exact hb c h
  unfold cutS
  by_cases hl : (Utf.encs (a ++ b)).length ≤ 100
  · exact ⟨b.length, by rw [if_pos hl, List.take_length], by rw [List.take_length]; exact hl, fun _ => List.take_length⟩
  · rw [if_neg hl]
    have hne : 0 < (Utf.encs (a ++ b)).length := by omega
    have h0 : Utf.startB ((Utf.encs (a ++ b)).getD 0 0) = true := Utf.start_first _ hg _ (by rw [List.getElem?_eq_getElem hne]; simp [List.getD, hne])
    have hst := cutAt_start _ h0 100
    have hle := cutAt_le (Utf.encs (a ++ b)) 100
    have hla : Utf.startB ((Utf.encs (a ++ b)).getD (Utf.encs a).length 0) = true := by
      have hlt : (Utf.encs a).length < (Utf.encs (a ++ b)).length := by omega
      have e : (Utf.encs (a ++ b)).getD (Utf.encs a).length 0 = (Utf.encs b).getD 0 0 := by
        rw [Utf.encs_append]
        simp [List.getD, List.getElem?_append_right]
      rw [e]
      have hbl : 0 < (Utf.encs b).length := by rw [Utf.encs_append, List.length_append] at hlt; omega
      exact Utf.start_first b hb _ (by rw [List.getElem?_eq_getElem hbl]; simp [List.getD, hbl])
    have hge := cutAt_ge _ _ hla 100 la
    generalize cutAt (Utf.encs (a ++ b)) 100 = m at hst hle hge
    have hm : (Utf.encs (a ++ b))[m]? = some ((Utf.encs (a ++ b)).getD m 0) := by
      have : m < (Utf.encs (a ++ b)).length := by omega
      rw [List.getElem?_eq_getElem this]; simp [List.getD, this]
    -- cut behind a: by b alone
    have hb' : (Utf.encs b)[m - (Utf.encs a).length]? = some ((Utf.encs (a ++ b)).getD m 0) := by
      rw [Utf.encs_append, List.getElem?_append_right hge] at hm
      rw [hm, ← Utf.encs_append]
    obtain ⟨k, hk, he⟩ := Utf.cut_encs b _ _ hb hb' hst
    have hcut : (Utf.encs (a ++ b)).take m = Utf.encs (a ++ b.take k) := by
      rw [Utf.encs_append, List.take_append, List.take_of_length_le hge, he, Utf.encs_append]
    refine ⟨k, hcut, ?_, fun h => absurd h hl⟩
    rw [← hcut, List.length_take]
    omega

theorem walk (t n t' n' : Int) (s s' : ByteArray) (w : World) (ht : Tabs w) :
    Calls Tryd.prog 4 #[vv t n s, vv t' n' s'] w fun e w' => e = .returned (.bool true) ∧ Below w.heap.size w w' := by
  have hab : TurnSaid (vv 3 0 ⟨#[97, 98]⟩) (vv 3 0 ⟨#[98, 97]⟩) 0 := by
    have := turn [97, 98] (by intro c hc; simp at hc; rcases hc with rfl | rfl <;> exact Or.inl (by decide)) (by decide)
    exact this
  by_cases h1 : textE [⟨t, n, s⟩] = 0
  · obtain ⟨rfl, rfl, hs, hv⟩ := text_one h1
    obtain ⟨a, ha, rfl⟩ := text_out hv
    rw [strL_size] at hs
    have har := rev_good ha
    have lar : (Utf.encs a.reverse).length ≤ 100 := by rw [encs_rev_len]; exact hs
    have t2 := turn a ha hs
    have t3 : TurnSaid (vv 3 0 (T a.reverse)) (vv 3 0 (T a)) 0 := by
      have := turn a.reverse har lar
      rw [List.reverse_reverse] at this
      exact this
    have l4 := len a ha hs
    have l5 : LenSaid (vv 3 0 (T a.reverse)) a.length 0 := by
      have := len a.reverse har lar
      rw [List.length_reverse] at this
      exact this
    by_cases h2 : textE [⟨t', n', s'⟩] = 0
    · obtain ⟨rfl, rfl, hs', hv'⟩ := text_one h2
      obtain ⟨b, hb, rfl⟩ := text_out hv'
      rw [strL_size] at hs'
      have hbr := rev_good hb
      have lbr : (Utf.encs b.reverse).length ≤ 100 := by rw [encs_rev_len]; exact hs'
      obtain ⟨k, hcut, hc100, hall⟩ := cut_joined a b ha hb hs
      have j6 := join a b ha hb hs hs'
      rw [hcut] at j6
      have hgc : ∀ c ∈ a ++ b.take k, Utf.good c := fun c hc => by
        rcases List.mem_append.1 hc with h | h
        · exact ha c h
        · exact hb c (List.mem_of_mem_take h)
      have l7 := len b hb hs'
      have l8 := len (a ++ b.take k) hgc hc100
      have hsz : (T a).size ≤ (T (a ++ b.take k)).size := by rw [strL_size, strL_size, Utf.encs_append, List.length_append]; omega
      have hpre : (T (a ++ b.take k)).extract 0 (T a).size = T a := by
        refine (strL_eq (s := (T (a ++ b.take k)).extract 0 (T a).size) ?_)
        rw [Lib.extract_data, strL_list, strL_size, Utf.encs_append]
        simp
      have na : a.length ≤ 100 := Nat.le_trans (Utf.encs_length a) hs
      have nb : b.length ≤ 100 := Nat.le_trans (Utf.encs_length b) hs'
      have hcl : (a ++ b.take k).length ≤ a.length + b.length := by rw [List.length_append, List.length_take]; omega
      by_cases hbig : (100 : Int) < ((T a).size : Int) + ((T b).size : Int)
      · exact join_p3 3 0 a.length b.length ((a ++ b.take k).length) (T a) (T b) (T a.reverse) _ w ht hab t2 t3 l4 l5 j6 l7 l8 (by omega) (by omega) (by omega) (by omega) (by exact_mod_cast hcl) (by exact_mod_cast hsz) hpre (by rw [strL_size]; exact hs) (by rw [strL_size]; exact hs') hbig
      · have hfit : (Utf.encs (a ++ b)).length ≤ 100 := by
          rw [strL_size, strL_size] at hbig
          rw [Utf.encs_append, List.length_append]
          omega
        rw [hall hfit] at j6 l8 hsz hpre hgc hc100
        have t9 := turn b hb hs'
        have hfr : (Utf.encs (b.reverse ++ a.reverse)).length ≤ 100 := by rw [← List.reverse_append, encs_rev_len]; exact hfit
        have j10 := join b.reverse a.reverse hbr har lbr lar
        rw [show cutS (Utf.encs (b.reverse ++ a.reverse)) = Utf.encs (a ++ b).reverse by unfold cutS; rw [if_pos hfr, ← List.reverse_append]] at j10
        have t11 := turn (a ++ b) hgc hfit
        have l8' : LenSaid (vv 3 0 (T (a ++ b))) ((a.length : Int) + (b.length : Int)) 0 := by
          rw [List.length_append] at l8
          exact_mod_cast l8
        exact join_p4 3 0 a.length b.length (T a) (T b) (T a.reverse) (T (a ++ b)) (T b.reverse) (T (a ++ b).reverse) w ht hab t2 t3 l4 l5 j6 l7 l8' t9 j10 t11 (by omega) (by omega) (by omega) (by omega) (by exact_mod_cast hsz) hpre (by rw [strL_size]; exact hs) (by rw [strL_size]; exact hs') hbig
    · have h3 : textE [⟨3, 0, T a⟩, ⟨t', n', s'⟩] = textE [⟨t', n', s'⟩] := by rw [text_two, h1]; simp
      exact join_p2 t' n' _ a.length (T a) s' (T a.reverse) w ht hab t2 t3 l4 l5 (fun w ht => joined_bad valid_string 3 0 t' n' (T a) s' _ h3 h2 w ht) (by simpa using h2)
  · exact join_p1 t n t' n' _ s s' w ht hab (fun w ht => turned_bad valid_string t n s _ rfl h1 w ht) (by simpa using h1)

set_option maxRecDepth 100000 in
theorem contract (H : Type) (enc : TypeId × Value → H) (W : World) (base : Nat) (args : Array Value) (ds gs : List (DataW H)) (before : List MemPlace)
    (hval : ∀ (j : Nat) t v, Tryd.f4.params[j]? = some t → args[j]? = some v → Value.okWide Tryd.prog W .any base t v)
    (hW : DataW.Whole enc Tryd.prog Tryd.f4.params.toList Rows.valuesJoinSpec.vars false W args.toList ds gs before) (hL : laidMetH Tryd.prog Rows.valuesJoinRow.laid W) :
    Calls Tryd.prog 4 args W fun e W' => ∃ v, e = .returned v ∧ Rows.valuesJoinSpec.post enc Tryd.prog Tryd.f4 false true false false W args v W' := by
  have hW' := hW
  obtain ⟨p, q, hA0, hV, rfl, hfz, hnd⟩ := hW
  have hA : DataW.TrodAll enc Tryd.prog W 0 (fun _ => true) true Tryd.f4.params.toList args.toList ds p := hA0
  rw [Tryd.params4] at hA hval
  obtain ⟨v0, vs0, d0, ds0, p0, q0, hargs, rfl, rfl, h0, r0⟩ := trodAll_cons hA
  obtain ⟨v1, vs1, d1, ds1, p1, q1, rfl, rfl, rfl, h1, r1⟩ := trodAll_cons r0
  obtain ⟨rfl, rfl, rfl⟩ := trodAll_nil r1
  obtain rfl : args = #[v0, v1] := by cases args; simp_all
  obtain ⟨rfl, rfl⟩ := trodVars_none hV
  have k0 := h0
  have k1 := h1
  obtain ⟨t0, n0, s0, rfl, -⟩ := open_value (hval 0 23 v0 rfl rfl) h0
  obtain ⟨t1, n1, s1, rfl, -⟩ := open_value (hval 1 23 v1 rfl rfl) h1
  clear hA0
  have hT : Tabs W := tabs_of (by kernel_rfl) hL (by simp [Rows.valuesJoinRow]) (by simp [Rows.valuesJoinRow])
  refine (walk t0 n0 t1 n1 s0 s1 W hT).mono fun e W' ⟨he, bel⟩ => ?_
  subst he
  exact ⟨_, rfl, _, _, _, [], _, [], hW', trodAll_mk1 (shut_bool Tryd.underlying4 _), (trodAll_cons_mk (Below.trod laidOut (by kernel_rfl) (of_decide_eq_true (by kernel_rfl)) k0 bel (trod_lt_of k0)) (trodAll_cons_mk (Below.trod laidOut (by kernel_rfl) (of_decide_eq_true (by kernel_rfl)) k1 bel (trod_lt_of k1)) trodAll_mk0)), rfl, bel.frame _, fun h => by cases h⟩

theorem reads0 (os : Os) {H : Type} (enc : TypeId × Value → H) : (DataW.whole enc Tryd.prog ((World.laidAll Tryd.prog os Rows.valuesJoinRow.laid).forCall (fun _ _ => 0) ⟨#[], #[vv 0 0 ⟨#[]⟩, vv 0 0 ⟨#[]⟩], []⟩).memory Tryd.f4.params.toList Rows.valuesJoinSpec.vars false (#[vv 0 0 ⟨#[]⟩, vv 0 0 ⟨#[]⟩] : Array Value).toList 8).isSome = true := by kernel_rfl
theorem reads (os : Os) {H : Type} (enc : TypeId × Value → H) : ∃ x, DataW.whole enc Tryd.prog ((World.laidAll Tryd.prog os Rows.valuesJoinRow.laid).forCall (fun _ _ => 0) ⟨#[], #[vv 0 0 ⟨#[]⟩, vv 0 0 ⟨#[]⟩], []⟩).memory Tryd.f4.params.toList Rows.valuesJoinSpec.vars false (#[vv 0 0 ⟨#[]⟩, vv 0 0 ⟨#[]⟩] : Array Value).toList 8 = some x :=
  Option.isSome_iff_exists.1 (reads0 os enc)

set_option maxRecDepth 100000 in
theorem lifted (os : Os) (started : os.Started) (H : Type) (enc : TypeId × Value → H) (F : Stop.Interp) :
    ReturnsInHanded {} Tryd.checked os 4 .any ((OpenSpec.ofChange Rows.valuesJoinSpec).preRow enc Tryd.prog Tryd.f4 Rows.valuesJoinRow.domain false Rows.valuesJoinRow.laid) (((OpenSpec.ofChange Rows.valuesJoinSpec).at F).post enc Tryd.prog Tryd.f4 false true false false) := by
  obtain ⟨x, hx⟩ := reads os enc
  refine returnsInHanded_of_row (C := Tryd.checked) (s := (OpenSpec.ofChange Rows.valuesJoinSpec)) own started (by kernel_rfl) Tryd.func4
    (witness_laid (enc := enc) (C := Tryd.checked) #[vv 0 0 ⟨#[]⟩, vv 0 0 ⟨#[]⟩] (World.shaped_of_ZipB (by kernel_rfl) (by kernel_rfl)) (by kernel_rfl)
      (OpenSpec.preRow_of_cond 8 hx (by kernel_rfl) (fun k hk => by cases hk) (by kernel_rfl) (by rw [MakeChecks.laidMetH_plain _ _ _ (by kernel_rfl)]; exact laidMet_laidAll _ (by kernel_rfl) (by kernel_rfl)))) ?_
  intro W base args ds gs before hval hW _ _ _ hL _ _
  exact contract H enc W base args ds gs before hval hW hL

theorem said : Rows.ValuesJoinSaid :=
  OpenClaim.holds_of_cond 4 Tryd.f4 rfl rfl rfl rfl rfl rfl rfl ⟨rfl, rfl, rfl, rfl, rfl⟩ rfl rfl rfl rfl rfl (by kernel_rfl) Tryd.func4 (by kernel_rfl)
    (of_decide_eq_true (by kernel_rfl)) (by unfold Func.isWrapper; first | (rw [if_pos (by decide +kernel)]; kernel_rfl) | (rw [if_neg (by decide +kernel)]; exact ⟨rfl, rfl⟩))
    (fun os started H enc _ F => by rw [OpenClaim.pre_eq_preRow]; exact lifted os started H enc F)

theorem plain (f : FuncId) (fn : Func) (hf : Tryd.pinned.checked.prog.funcNamed Rows.valuesJoinRow.func = some f) (hfn : Tryd.pinned.checked.prog.funcs[f]? = some fn) :
    true = Tryd.pinned.checked.prog.looks [] ∧ ∀ (j : Nat) t, fn.params[j]? = some t → Tryd.pinned.checked.prog.wantsStandIn t = false := by
  obtain rfl : f = 4 := Option.some.inj ((show Tryd.prog.funcNamed Rows.valuesJoinRow.func = some 4 by kernel_rfl).symm.trans hf) |>.symm
  obtain rfl : fn = Tryd.f4 := (Option.some.inj (Tryd.func4.symm.trans hfn)).symm
  refine ⟨by kernel_rfl, fun j t ht => ?_⟩
  rw [Tryd.params4] at ht
  have hm : t ∈ [23] := by
    have := Array.mem_of_getElem? ht
    simp at this ⊢
    first | exact this | (rcases this with h | h <;> simp [h]) | (rcases this with h | h | h <;> simp [h]) | (rcases this with h | h | h | h <;> simp [h])
  have hall : ([23].all fun u => !Tryd.prog.wantsStandIn u) = true := by kernel_rfl
  exact (show Tryd.prog.wantsStandIn t = false by simpa using List.all_eq_true.1 hall t hm)

/-- THE CARD. -/
theorem card : Rows.ValuesJoinCardSaid :=
  Claim7.holds_tied_plain_at .later [] _ _ _ _ said (fun _ h => by cases h) (by kernel_rfl) (fun _ h => by cases h) valuesJoin_row_tie rfl ⟨rfl, rfl⟩ (by kernel_rfl) rfl plain (by kernel_rfl)
#print axioms card
end Go.Proofs.YtiobdkibbhpojaaDoor.LVJ
