/- The law MonitorMirror's arguments and tables. -/
import Derived.Test.YtgecnlcbdbaneaaDoorKV9
import Derived.Test.YtgecnlcbdbaneaaDoorH24
import Derived.Test.YtgecnlcbdbaneaaDoorShelfV
import Derived.Test.YtgecnlcbdbaneaaDoorKZ4
-- TYPESE
set_option linter.unusedVariables false
set_option linter.unusedSimpArgs false
namespace Go.Proofs.YtgecnlcbdbaneaaDoor
open Go.RowKit Go.Sw

theorem u8_GW {W : World} (h : Lib.Utf8Tabs 0 1 W) : ∀ w,(GW W).G w → Lib.Utf8Tabs 0 1 w:=by
 intro w hw
 have lt : ∀ {a : Addr} {v : Value},W.cell? a = some v → w.cell? a = some v:=fun {a v} hc=>by
  rcases Nat.lt_or_ge a.block W.heap.size with h' | h'
  · rw [← hc]
    unfold World.cell?
    rw [hw _ h']
  · simp [World.cell?,Array.getElem?_eq_none h'] at hc
 exact ⟨fun c hc=>lt (h.1 c hc),fun i hi=>⟨lt (h.2 i hi).1,lt (h.2 i hi).2⟩⟩
theorem u8_of {laid : List (String × DataW Unit)} {W : World} (hp : (laid.filter fun x=>x.2.handleName?.isSome) = []) (h : laidMetH Tryd.prog laid W)
 (h1 : ("unicode/utf8.first", Rows.laid_unicode_utf8_first) ∈ laid) (h2 : ("unicode/utf8.acceptRanges", Rows.laid_unicode_utf8_acceptRanges) ∈ laid) : Lib.Utf8Tabs 0 1 W := by
 have h' : laidMet Tryd.prog laid W:=by
  unfold laidMetH at h
  rw [hp] at h
  exact h
 have a:=Lib.laidMet.reads h' h1
 have b:=Lib.laidMet.reads h' h2
 have e1 : Rows.laid_unicode_utf8_first = Lib.firstData:=Pinned.utf8First_eq
 have e2 : (Rows.laid_unicode_utf8_acceptRanges : DataW Unit) = Lib.acceptData:=by kernel_rfl
 rw [e1] at a
 rw [e2] at b
 exact utf8Tabs_of_reads Tryd.lays260 Tryd.u8extra a b
theorem vs_ok (Γ : Gl) (hU : ∀ w, Γ.G w → Lib.Utf8Tabs 0 1 w) : VSok Γ (fun s=>Lib.validD s.data.toList):=fun s hs =>
 dfn_of (by kernel_rfl) rfl rfl fun w h=>Tryd.utf8_ValidString s w (by omega) (hU w h)
section
variable {H : Type} {enc : TypeId × Value → H} {W : World} {r : Reach} {base b0 : Nat} {sp : Nat → Bool} {held : Bool} {v : Value} {d : DataW H} {p : List MemPlace}
end
end Go.Proofs.YtgecnlcbdbaneaaDoor
/- The law MonitorBlame's arguments and tables. -/
-- TYPESE
namespace Go.Proofs.YtgecnlcbdbaneaaDoor
open Go.RowKit Go.Sw

theorem blameLaw (Γ : Gl) (hU : ∀ w, Γ.G w → Lib.Utf8Tabs 0 1 w) (x y : Tp) (l : List Int) (hl : l.length ≤ 140737488355328 ∧ ∀ k ∈ l, -9223372036854775808 ≤ k ∧ k < 9223372036854775808) : DFn Tryd.prog Γ 9 [x.d,y.d,.slc (l.map iD)] (.v (.bool true)) :=
 blameLaw0 Γ (vs_ok Γ hU) (by decide +kernel) x y l hl.1 hl.2
def TYN : List TypeId:=[50,3]
theorem TYN_ok : TYN.all (okT Tryd.prog TYN) = true:=by kernel_rfl
section
variable {H : Type} {enc : TypeId × Value → H} {W : World} {r : Reach} {base b0 : Nat} {sp : Nat → Bool} {held : Bool} {v : Value} {d : DataW H} {p : List MemPlace}
set_option maxRecDepth 100000 in
theorem open50 (hv : Value.okWide Tryd.prog W r base 50 v) (h : DataW.Trod enc Tryd.prog W b0 sp held 50 v d p) (hw : (d.weights Tryd.prog 50).all (· ≤ reachBytes) = true) : ∃ l : List Int,RpD W M0 (.d (.slc (l.map iD)) v) ∧ l.length ≤ 140737488355328 ∧ ∀ k ∈ l, -9223372036854775808 ≤ k ∧ k < 9223372036854775808:=by
 obtain ⟨m,xs,h1,h2⟩:=open_top TYN_ok (by decide) hv h hw
 obtain ⟨L,m2,hm2,rfl,hb,hx⟩:=ty_slc un50 h1
 obtain ⟨l,rfl,hl⟩:=map_of (f:=iD) (p:=fun k => -9223372036854775808 ≤ k ∧ k < 9223372036854775808) (L:=L) fun x hm=>by
  obtain ⟨ys,h8,rfl⟩:=hx x hm
  obtain ⟨k,rfl,hk⟩:=ty_int un3 h8
  have hk2:=hk
  simp [Lit.wf,IntKind.min,IntKind.max,IntKind.signed,IntKind.bits] at hk2
  exact ⟨k,mkD_one (by simp [un3]) _,by omega⟩
 have r:=reach_47
 rw [List.length_map,show Tryd.prog.bytesOf 3 = 8 by kernel_rfl] at hb
 rw [mkD_one (by simp [un50])] at h2
 exact ⟨l,h2,by omega,hl⟩
end
end Go.Proofs.YtgecnlcbdbaneaaDoor
