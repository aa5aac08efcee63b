/- The law MonitorMirror's arguments and tables. -/
-- TYPESE
import Derived.Test.YtgecnlcbdbaneaaDoorKV8
import Derived.Test.YtgecnlcbdbaneaaDoorKV10
import Derived.Test.YtgecnlcbdbaneaaDoorH24
import Derived.Test.YtgecnlcbdbaneaaDoorShelfV
set_option linter.unusedVariables false
set_option linter.unusedSimpArgs false
namespace Go.Proofs.YtgecnlcbdbaneaaDoor
open Go.RowKit Go.Sw

theorem u8_GW {W : World} (h : Lib.Utf8Tabs 0 1 W) : ∀ w,(GW W).G w → Lib.Utf8Tabs 0 1 w:=by
 intro w hw
 have lt : ∀ {a : Addr} {v : Value},W.cell? a = some v → w.cell? a = some v:=fun {a v} hc=>by
  rcases Nat.lt_or_ge a.block W.heap.size with h' | h'
  · rw [← hc]
    unfold World.cell?
    rw [hw _ h']
  · simp [World.cell?,Array.getElem?_eq_none h'] at hc
 exact ⟨fun c hc=>lt (h.1 c hc),fun i hi=>⟨lt (h.2 i hi).1,lt (h.2 i hi).2⟩⟩
theorem u8_of {laid : List (String × DataW Unit)} {W : World} (hp : (laid.filter fun x=>x.2.handleName?.isSome) = []) (h : laidMetH Tryd.prog laid W)
 (h1 : ("unicode/utf8.first", Rows.laid_unicode_utf8_first) ∈ laid) (h2 : ("unicode/utf8.acceptRanges", Rows.laid_unicode_utf8_acceptRanges) ∈ laid) : Lib.Utf8Tabs 0 1 W := by
 have h' : laidMet Tryd.prog laid W:=by
  unfold laidMetH at h
  rw [hp] at h
  exact h
 have a:=Lib.laidMet.reads h' h1
 have b:=Lib.laidMet.reads h' h2
 have e1 : Rows.laid_unicode_utf8_first = Lib.firstData:=Pinned.utf8First_eq
 have e2 : (Rows.laid_unicode_utf8_acceptRanges : DataW Unit) = Lib.acceptData:=by kernel_rfl
 rw [e1] at a
 rw [e2] at b
 exact utf8Tabs_of_reads Tryd.lays260 Tryd.u8extra a b
theorem vs_ok (Γ : Gl) (hU : ∀ w, Γ.G w → Lib.Utf8Tabs 0 1 w) : VSok Γ (fun s=>Lib.validD s.data.toList):=fun s hs =>
 dfn_of (by kernel_rfl) rfl rfl fun w h=>Tryd.utf8_ValidString s w (by omega) (hU w h)
theorem mirrorLaw (Γ : Gl) (hΓ : PowT Γ) (hU : ∀ w, Γ.G w → Lib.Utf8Tabs 0 1 w) (x : Tp) (l : List Ev) (hl : l.length ≤ 140737488355328 ∧ ∀ e ∈ l,szT e.c) : DFn Tryd.prog Γ 10 [x.d,.slc (l.map Ev.d)] (.v (.bool true)) :=
 mirrorLaw0 Γ hΓ (fun kd vs vn vS c lab hc=>ev_both Γ (vs_ok Γ hU) kd vs vn vS hc lab) x l hl.1 hl.2
def TYE : List TypeId:=[66,60,58,25,23,22,9,3,2]
theorem TYE_ok : TYE.all (okT Tryd.prog TYE) = true:=by kernel_rfl
set_option maxRecDepth 100000 in
theorem tyEv {m : Nat} {ds : List D} (h : Ty Tryd.prog m 60 ds) : ∃ x : Ev,D.agg ds = x.d ∧ szT x.c:=by
 obtain ⟨m',hm,a,b,rfl,h1,a2,b2,rfl,h2,a3,b3,rfl,h3,a4,b4,rfl,h4,rfl⟩:=ty_struct Tryd.underlying60 h
 obtain ⟨kd,rfl, -⟩:=ty_int un3 h1
 obtain ⟨m2,hm2,c,d,rfl,i1,c2,d2,rfl,i2,c3,d3,rfl,i3,rfl⟩:=ty_struct Tryd.underlying58 h2
 obtain ⟨vs,rfl, -⟩:=ty_int un3 i1
 obtain ⟨vn,rfl, -⟩:=ty_int Tryd.underlying2 i2
 obtain ⟨vS,rfl, -⟩:=ty_str un9 i3
 obtain ⟨⟨k,so,nm,ls,l⟩,h5,h6⟩:=tyTZ m' h3
 obtain ⟨lab,rfl, -⟩:=ty_str un9 h4
 simp only [Tp.d,D.agg.injEq] at h5
 subst h5
 exact ⟨⟨kd,vs,vn,vS,.mk k so nm ls l,lab⟩,by simp only [Ev.d,evD,List.append_nil,List.cons_append,List.nil_append],h6⟩
section
variable {H : Type} {enc : TypeId × Value → H} {W : World} {r : Reach} {base b0 : Nat} {sp : Nat → Bool} {held : Bool} {v : Value} {d : DataW H} {p : List MemPlace}
set_option maxRecDepth 100000 in
theorem open66 (hv : Value.okWide Tryd.prog W r base 66 v) (h : DataW.Trod enc Tryd.prog W b0 sp held 66 v d p) (hw : (d.weights Tryd.prog 66).all (· ≤ reachBytes) = true) : ∃ l : List Ev,RpD W M0 (.d (.slc (l.map Ev.d)) v) ∧ l.length ≤ 140737488355328 ∧ ∀ e ∈ l,szT e.c:=by
 obtain ⟨m,xs,h1,h2⟩:=open_top TYE_ok (by decide) hv h hw
 obtain ⟨L,m2,hm2,rfl,hb,hx⟩:=ty_slc un66 h1
 obtain ⟨l,rfl,hl⟩:=map_of (f:=Ev.d) (p:=fun e=>szT e.c) (L:=L) fun x hm=>by
  obtain ⟨ys,h8,rfl⟩:=hx x hm
  obtain ⟨y,h9,h10⟩:=tyEv h8
  exact ⟨y,by rw [mkD_struct Tryd.underlying60,h9],h10⟩
 have r:=reach_47
 rw [List.length_map,show Tryd.prog.bytesOf 60 = 136 by kernel_rfl] at hb
 rw [mkD_one (by simp [un66])] at h2
 exact ⟨l,h2,by omega,hl⟩
end
end Go.Proofs.YtgecnlcbdbaneaaDoor
