/- What is laid for the laws on types; arguments that are types. -/
import Derived.Test.YtgpnomhhnplchaaDoorT17
import Derived.Test.YtgpnomhhnplchaaDoorSwC
import Derived.Lib.LaidU8
import Derived.Test.YtgpnomhhnplchaaDoorFrame
set_option linter.unusedVariables false
set_option linter.unusedSimpArgs false
namespace Go.Proofs.YtgpnomhhnplchaaDoor
open Go.RowKit Go.Sw

/-- All that a world holds stays. -/
def GW (W : World) : Gl := ⟨W.heap.size, fun w => ∀ b, b < W.heap.size → w.heap[b]? = W.heap[b]?, fun w w' h g b hb => (h b hb).trans (g b hb)⟩
theorem es_of {w : World} {M : Nat → Prop} : ∀ (l : List ByteArray) (b o : Nat), (∀ j x, l[j]? = some x → w.cell? ⟨b, o + j, none⟩ = some (.string x)) → (l ≠ [] → ¬ M b) → RpD w M (.es 1 (l.map sD) b o)
  | [], b, o, _, _ => .esn _ _ _
  | x :: l, b, o, h, hm => .esc rfl (.csc (hm (by simp)) (h 0 x rfl) (.v _ rfl) (.csn _ _)) (es_of l b (o + 1) (fun j y hj => by
      have := h (j + 1) y (by simpa using hj)
      rw [show o + 1 + j = o + (j + 1) by omega]; exact this) (fun _ => hm (by simp)))
theorem cells22 : Tryd.prog.cellsOf 9 = 1 := by kernel_rfl
theorem gd_sorts {laid : List (String × DataW Unit)} {W : World} (hp : (laid.filter fun x => x.2.handleName?.isSome) = []) (h : laidMetH Tryd.prog laid W) (hm : ("duet/types.sorts", Rows.laid_duet_types_sorts) ∈ laid) :
    GD Tryd.prog (GW W) 1 22 (.slc (sortsL.map sD)) := by
  have h' : laidMet Tryd.prog laid W := by
    unfold laidMetH at h
    rw [hp] at h
    exact h
  obtain ⟨g, t, cs, fuel, p, hg, ht, hvar, hd⟩ := Lib.laidMet.reads h' hm
  obtain rfl := Option.some.inj ((show Tryd.prog.globalNamed "duet/types.sorts" = some 1 by kernel_rfl).symm.trans hg)
  obtain rfl := Option.some.inj ((show (Tryd.prog.globals[1]?).map (·.type) = some 22 by kernel_rfl).symm.trans ht)
  rcases DataW.trod_slice un22 hd with ⟨h1, h2⟩ | ⟨a, len, cap, elems, rest, n, hf, hcs, hx, -, hcap, -, hlen, hel, -, -⟩
  · simp [Rows.laid_duet_types_sorts] at h2
  simp only [Rows.laid_duet_types_sorts, Prod.mk.injEq, DataW.slice.injEq] at hx
  obtain ⟨⟨he, -⟩, -⟩ := hx
  have hl4 : len = 4 := by
    have := congrArg List.length he
    simp only [List.length_map, List.length_cons, List.length_nil] at this
    omega
  subst hl4
  -- the cells, one by one
  have cell : ∀ j (x : ByteArray), sortsL[j]? = some x → W.cell? ⟨a.block, a.off + j, none⟩ = some (.string x) := by
    intro j x hj
    have hj4 : j < 4 := (List.getElem?_eq_some_iff.1 hj).1
    have := hel j hj4
    rw [cells22, Nat.mul_one] at this
    obtain ⟨y, hy⟩ : ∃ y, elems[j]? = some y := ⟨elems[j]'(by omega), by simp⟩
    rw [hy] at this
    cases hc : W.cells? 0 (a.add j) 1 with
    | none => rw [hc] at this; cases this
    | some us =>
      rw [hc] at this
      simp only [Option.bind_some] at this
      obtain ⟨b, rfl, rfl, -⟩ := DataW.trod_string un9 this
      obtain ⟨-, c2⟩ := cells_get hc
      have c3 := c2 0 (.string b) rfl
      rw [(add_block a j).1, (add_block a j).2, Nat.add_zero] at c3
      have e1 : (elems.map (·.1))[j]? = some (.lit (.string b.data.toList)) := by rw [List.getElem?_map, hy]; rfl
      rw [← he] at e1
      have e2 : b.data.toList = x.data.toList := by
        rcases (show j = 0 ∨ j = 1 ∨ j = 2 ∨ j = 3 by omega) with rfl | rfl | rfl | rfl
        all_goals
          simp only [sortsL, List.getElem?_cons_zero, List.getElem?_cons_succ, Option.some.injEq, DataW.lit.injEq, Lit.string.injEq] at e1 hj
          subst hj
          exact e1.symm
      rw [c3, data_back e2]
  have hlt : a.block < W.heap.size := show (⟨a.block, a.off + 0, none⟩ : Addr).block < W.heap.size from World.block_lt_of_cell? _ _ (cell 0 noB rfl)
  have hsp : a.spot = none := by
    have h0 := hel 0 (by omega)
    rw [cells22, Nat.zero_mul] at h0
    cases hc : W.cells? 0 (a.add 0) 1 with
    | none =>
      rw [hc] at h0
      obtain ⟨y, hy⟩ : ∃ y, elems[0]? = some y := ⟨elems[0]'(by omega), by simp⟩
      rw [hy] at h0; cases h0
    | some us =>
      obtain ⟨c1, -⟩ := cells_get hc
      unfold World.cells? at hc
      split at hc
      · have hg := mapM_some_get hc 0 0 (by simp)
        cases hu0 : us[0]? with
        | none =>
          have hus : us = [] := by simpa using hu0
          rw [hus] at c1
          cases c1
        | some v0 =>
          rw [hu0] at hg
          have := cell_spot hg
          simpa [Addr.add] using this
      · cases hc
  have hrp : RpD W (fun b => W.heap.size ≤ b) (.d (.slc (sortsL.map sD)) (.slice (some a) 4 cap)) := by
    obtain ⟨ab, ao, asp⟩ := a
    simp only at hsp cell hlt
    subst hsp
    exact .slc rfl hcap (es_of sortsL ab ao cell (fun _ => by omega))
  intro w hw
  have hcell : w.cell? ⟨1, 0, none⟩ = some (.slice (some a) 4 cap) := by
    have h0 := World.var?_cell hg hvar 0
    have h1 : cs[0]? = some (.slice (some a) 4 cap) := by
      have : cs.toList[0]? = some (.slice (some a) 4 cap) := by rw [hcs]; rfl
      simpa using this
    rw [h1] at h0
    have hb : (1 : Nat) < W.heap.size := World.block_lt_of_cell? _ _ h0
    rw [World.cell?_of_block (w := W) (hw 1 hb)]
    exact h0
  have hld : loadC Tryd.prog 22 [.d (.slc (sortsL.map sD))] = some (True, .d (.slc (sortsL.map sD))) := by
    simp only [loadC, ag22, sz22]
  obtain ⟨v, h5, h6⟩ := loadC_ok (F := fun b => W.heap.size ≤ b) (β := fun _ => undef) (s := []) (w := w) hld trivial (us := [.slice (some a) 4 cap])
    (.ssc (.d (hrp.keep (fun b hb hm => hw b (by omega)) (fun b hb hm => by
      rcases hm with hm | ⟨i, bx, hl, -⟩
      · exact hm
      · cases hl))) .ssn) 1 0 (fun j u hj => by
    cases j with
    | zero => simp at hj; subst hj; exact hcell
    | succ j => simp at hj)
  refine ⟨v, by simp [Instr.loadAt, Instr.sureAddr, h5], ?_⟩
  cases h6 with
  | d h7 => exact h7.keep (fun _ _ _ => rfl) (fun b _ hm => .inl hm)

def TY : List TypeId := [37, 22, 35, 9, 3]
theorem TY_ok : TY.all (okT Tryd.prog TY) = true := by kernel_rfl
theorem tds_map : ∀ l : List Tp, Tp.ds l = l.map Tp.d
  | [] => rfl
  | x :: l => by simp [Tp.ds, tds_map l]
set_option maxRecDepth 100000 in
theorem ty37 : ∀ (m : Nat) {ds : List D}, Ty Tryd.prog m 37 ds → ∃ x : Tp, D.agg ds = x.d
  | 0, ds, h => h.elim
  | m + 1, ds, h => by
    obtain ⟨m', hm, a, b, rfl, h1, a2, b2, rfl, h2, a3, b3, rfl, h3, a4, b4, rfl, h4, a5, b5, rfl, h5, rfl⟩ := ty_struct Tryd.underlying37 h
    obtain rfl : m' = m := by omega
    obtain ⟨k, rfl, -⟩ := ty_int un3 h1
    obtain ⟨so, rfl, -⟩ := ty_int un3 h2
    obtain ⟨nm, rfl, -⟩ := ty_str un9 h3
    obtain ⟨L, m2, hm2, rfl, -, hx⟩ := ty_slc un22 h4
    obtain ⟨ls, rfl, -⟩ := map_of (f := sD) (p := fun _ => True) (L := L) fun x hm => by
      obtain ⟨xs, h6, rfl⟩ := hx x hm
      obtain ⟨y, rfl, -⟩ := ty_str un9 h6
      exact ⟨y, mkD_one (by simp [un9]) _, trivial⟩
    obtain ⟨L2, m3, hm3, rfl, -, hx2⟩ := ty_slc un35 h5
    obtain ⟨l, rfl, -⟩ := map_of (f := Tp.d) (p := fun _ => True) (L := L2) fun x hm => by
      obtain ⟨xs, h6, rfl⟩ := hx2 x hm
      obtain rfl : m2 = m3 := by omega
      subst hm2
      obtain ⟨y, h7⟩ := ty37 m2 h6
      exact ⟨y, by rw [mkD_struct Tryd.underlying37, h7], trivial⟩
    exact ⟨.mk k so nm ls l, by rw [← tds_map]; simp only [Tp.d, List.append_nil, List.cons_append, List.nil_append]⟩
section
variable {H : Type} {enc : TypeId × Value → H} {W : World} {r : Reach} {base b0 : Nat} {sp : Nat → Bool} {held : Bool} {v : Value} {d : DataW H} {p : List MemPlace}
set_option maxRecDepth 100000 in
theorem open37 (hv : Value.okWide Tryd.prog W r base 37 v) (h : DataW.Trod enc Tryd.prog W b0 sp held 37 v d p) (hw : (d.weights Tryd.prog 37).all (· ≤ reachBytes) = true) : ∃ x : Tp, RpD W M0 (.d x.d v) ∧ True := by
  obtain ⟨m, xs, h1, h2⟩ := open_top TY_ok (by decide) hv h hw
  rw [mkD_struct Tryd.underlying37] at h2
  obtain ⟨x, h3⟩ := ty37 m h1
  rw [h3] at h2
  exact ⟨x, h2, trivial⟩
set_option maxRecDepth 100000 in
theorem open9 (hv : Value.okWide Tryd.prog W r base 9 v) (h : DataW.Trod enc Tryd.prog W b0 sp held 9 v d p) (hw : (d.weights Tryd.prog 9).all (· ≤ reachBytes) = true) : ∃ s : ByteArray, RpD W M0 (.d (sD s) v) ∧ s.size ≤ reachBytes := by
  obtain ⟨m, xs, h1, h2⟩ := open_top TY_ok (by decide) hv h hw
  obtain ⟨s, rfl, h3⟩ := ty_str un9 h1
  rw [mkD_one (by simp [un9])] at h2
  exact ⟨s, h2, h3⟩
end
end Go.Proofs.YtgpnomhhnplchaaDoor
