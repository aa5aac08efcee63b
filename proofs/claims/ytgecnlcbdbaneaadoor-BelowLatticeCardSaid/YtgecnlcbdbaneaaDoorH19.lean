/- The table of powers, where it is laid. -/
import Derived.Test.YtgecnlcbdbaneaaDoorH17
import Derived.Test.YtgecnlcbdbaneaaDoorU6
import Derived.Lib.LaidTab
set_option linter.unusedVariables false
set_option linter.unusedSimpArgs false
namespace Go.Proofs.YtgecnlcbdbaneaaDoor
open Go.RowKit Go.Sw

theorem pow10_at : Tryd.prog.globalNamed "internal/strconv.uint64pow10" = some 2 := by kernel_rfl
theorem pow_of {laid : List (String × DataW Unit)} {W : World} (hp : (laid.filter fun x=>x.2.handleName?.isSome) = []) (h : laidMetH Tryd.prog laid W)
 (h3 : ("internal/strconv.uint64pow10", Rows.laid_internal_strconv_uint64pow10) ∈ laid) : Lib.TabIs Tryd.prog W "internal/strconv.uint64pow10" .u64 Lib.pow10Tab := by
 have h' : laidMet Tryd.prog laid W:=by
  unfold laidMetH at h
  rw [hp] at h
  exact h
 obtain ⟨g',t',cs,fuel,p,hg',ht',hvar,hd⟩:=Lib.laidMet.reads h' h3
 obtain rfl:=Option.some.inj (pow10_at.symm.trans hg')
 have e : (Rows.laid_internal_strconv_uint64pow10 : DataW Unit) = Lib.tabData .u64 Lib.pow10Tab:=by kernel_rfl
 rw [e] at hd
 unfold Lib.TabIs
 have ht2 : (Tryd.prog.globals[2]?).map (·.type) = some 186:=by kernel_rfl
 obtain rfl:=Option.some.inj (ht2.symm.trans ht')
 have hc:=Lib.cells_of_tab (n:=20) (e:=161) (by kernel_rfl) (by kernel_rfl) (by kernel_rfl) (by kernel_rfl) hd
 rw [hvar, ← hc]
theorem pow_GW {W : World} (h : Lib.TabIs Tryd.prog W "internal/strconv.uint64pow10" .u64 Lib.pow10Tab) : PowT (GW W) := by
 intro w hw
 have hlt : 2 < W.heap.size:=by
  unfold Lib.TabIs World.var? at h
  rw [pow10_at] at h
  simp only [Option.bind_some] at h
  cases hb : W.heap[2]? with
  | none=>rw [hb] at h;cases h
  | some b=>exact (Array.getElem?_eq_some_iff.1 hb).1
 unfold Lib.TabIs World.var? at h ⊢
 rw [pow10_at] at h ⊢
 simp only [Option.bind_some] at h ⊢
 rw [hw 2 hlt]
 exact h
end Go.Proofs.YtgecnlcbdbaneaaDoor
