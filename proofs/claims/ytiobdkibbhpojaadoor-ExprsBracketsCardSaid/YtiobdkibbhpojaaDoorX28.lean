/- What is laid for the laws on written values; the range of a number that comes in. -/
import Derived.Test.YtiobdkibbhpojaaDoorX16a
import Derived.Test.YtiobdkibbhpojaaDoorW8
import Derived.Test.YtiobdkibbhpojaaDoorFrame
import Derived.Lib.LaidTab
set_option linter.unusedVariables false
set_option linter.unusedSimpArgs false
namespace Go.Proofs.YtiobdkibbhpojaaDoor
open Go.RowKit Go.Sw

theorem iface_of {H : Type} {enc : TypeId × Value → H} {w : World} {b0 : Nat} {sp : Nat → Bool} {held : Bool} {fuel : Nat} {cs : List Value} {x : DataW H × List MemPlace} {ms : Array (String × TypeId)}
    (hu : Tryd.prog.underlying 93 = some (.interface ms)) (h : DataW.trod enc Tryd.prog w b0 sp held fuel 93 cs = some x) : ∃ ev, cs = [ev] ∧ (ev = .nilIface ∨ ∃ te pe, ev = .iface te pe) := by
  cases fuel with
  | zero => simp [DataW.trod] at h
  | succ fuel =>
    unfold DataW.trod at h
    rw [hu] at h
    split at h <;> first
      | (exact ⟨_, rfl, .inl rfl⟩)
      | (exact ⟨_, rfl, .inr ⟨_, _, rfl⟩⟩)
      | (simp_all; done)
      | (cases h; done)
theorem wf_range {n : Int} (h : (Lit.int .i64 n).wf = true) : -9223372036854775808 ≤ n ∧ n ≤ 9223372036854775807 := by
  simp only [Lit.wf, Bool.and_eq_true, decide_eq_true_eq] at h
  have h1 : IntKind.min .i64 = -9223372036854775808 := by decide +kernel
  have h2 : IntKind.max .i64 = 9223372036854775807 := by decide +kernel
  rw [h1, h2] at h
  exact h
theorem err_at {W : World} {n : String} {d : DataW Unit} {g : Nat} (hg : Tryd.prog.globalNamed n = some g) (ht : (Tryd.prog.globals[g]?).map (·.type) = some 93) (h : Lib.VarReads Tryd.prog W n d) : ErrAt W g := by
  obtain ⟨g', t', cs, fuel, p, hg', ht', hvar, hd⟩ := h
  obtain rfl := Option.some.inj (hg.symm.trans hg')
  obtain rfl := Option.some.inj (ht.symm.trans ht')
  obtain ⟨ev, h1, h2⟩ := iface_of Tryd.underlying93 hd
  refine ⟨ev, ?_, h2⟩
  have := World.var?_cell hg hvar 0
  rw [this]
  have h3 : cs[0]? = cs.toList[0]? := by simp
  rw [h3, h1]
  rfl
theorem tabs1_of {laid : List (String × DataW Unit)} {W : World} (hp : (laid.filter fun x => x.2.handleName?.isSome) = []) (h : laidMetH Tryd.prog laid W)
    (h1 : ("unicode/utf8.first", Rows.laid_unicode_utf8_first) ∈ laid) (h2 : ("unicode/utf8.acceptRanges", Rows.laid_unicode_utf8_acceptRanges) ∈ laid)
    (h3 : ("internal/strconv.uint64pow10", Rows.laid_internal_strconv_uint64pow10) ∈ laid) (h4 : ("strconv.ErrSyntax", Rows.laid_strconv_ErrSyntax) ∈ laid) (h5 : ("strconv.ErrRange", Rows.laid_strconv_ErrRange) ∈ laid) : Tabs1 W := by
  have h' : laidMet Tryd.prog laid W := by
    unfold laidMetH at h
    rw [hp] at h
    exact h
  refine ⟨tabs_of hp h h1 h2, ?_, err_at (by kernel_rfl) (by kernel_rfl) (Lib.laidMet.reads h' h4), err_at (by kernel_rfl) (by kernel_rfl) (Lib.laidMet.reads h' h5)⟩
  obtain ⟨g', t', cs, fuel, p, hg', ht', hvar, hd⟩ := Lib.laidMet.reads h' h3
  obtain rfl := Option.some.inj (pow10_at.symm.trans hg')
  have e : (Rows.laid_internal_strconv_uint64pow10 : DataW Unit) = Lib.tabData .u64 Lib.pow10Tab := by kernel_rfl
  rw [e] at hd
  unfold Lib.TabIs
  have ht2 : (Tryd.prog.globals[2]?).map (·.type) = some 184 := by kernel_rfl
  obtain rfl := Option.some.inj (ht2.symm.trans ht')
  have hc := Lib.cells_of_tab (n := 20) (e := 150) (by kernel_rfl) (by kernel_rfl) (by kernel_rfl) (by kernel_rfl) hd
  rw [hvar, ← hc]
end Go.Proofs.YtiobdkibbhpojaaDoor
