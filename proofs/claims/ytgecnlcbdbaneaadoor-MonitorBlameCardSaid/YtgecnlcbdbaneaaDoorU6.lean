/- Types that are right: plain. -/
import Derived.Test.YtgecnlcbdbaneaaDoorU5
import Derived.Test.YtgecnlcbdbaneaaDoorSwC
import Derived.Test.YtgecnlcbdbaneaaDoorFrame
import Derived.Test.YtgecnlcbdbaneaaDoorTA
set_option linter.unusedVariables false
set_option linter.unusedSimpArgs false
namespace Go.Proofs.YtgecnlcbdbaneaaDoor
open Go.RowKit Go.Sw

abbrev noB : ByteArray:=⟨#[]⟩
theorem empty_of {s : ByteArray} (h : emptyB s = true) : s = noB:=by
 unfold emptyB at h
 have h:=eq_of_beq h
 rw [Lib.toList_data,Lib.toList_data] at h
 obtain ⟨d⟩:=s
 have : d = #[]:=Array.toList_inj.1 h
 rw [this]
inductive OkT : Tp → Prop
 | nil : OkT (.mk 1 0 noB [] [])
 | pass (k so : Int) (x : Tp) (hk : k = 2 ∨ k = 3) (h1 : 1 ≤ so) (h3 : so ≤ 3) (hx : OkT x) : OkT (.mk k so noB [] [x])
 | give (k : Int) (x y : Tp) (hk : k = 4 ∨ k = 5) (hx : OkT x) (hy : OkT y) : OkT (.mk k 0 noB [] [x,y])
 | pick (k : Int) (ls : List ByteArray) (l : List Tp) (hk : k = 6 ∨ k = 7) (hl : labelsB ls = true) (hn : l.length = ls.length) (h : ∀ x ∈ l,OkT x) : OkT (.mk k 0 noB ls l)
 | bind (nm : ByteArray) (x : Tp) (hn : isVarB nm = true) (hx : OkT x) : OkT (.mk 8 0 nm [] [x])
 | var (nm : ByteArray) (hn : isVarB nm = true) : OkT (.mk 9 0 nm [] [])
theorem sort_none {so : Int} (h : sortB false so = true) : so = 0:=by
 simpa [sortB] using h
theorem sort_some {so : Int} (h : sortB true so = true) : 1 ≤ so ∧ so ≤ 3:=by
 simpa [sortB] using h
theorem len_one {α : Type} {l : List α} (h : l.length = 1) : ∃ x,l = [x]:=by
 match l,h with
 | [x],_=>exact ⟨x,rfl⟩
theorem len_two {α : Type} {l : List α} (h : l.length = 2) : ∃ x y,l = [x,y]:=by
 match l,h with
 | [x,y],_=>exact ⟨x,y,rfl⟩
theorem ok_shape {k so : Int} {nm : ByteArray} {ls : List ByteArray} {l : List Tp} (h : shapedB (.mk k so nm ls l) = true) (hl : ∀ x ∈ l,OkT x) : OkT (.mk k so nm ls l):=by
 simp only [shapedB] at h
 split at h
 · rename_i i hi
   simp only [shapeB] at h
   split at h
   · rename_i hn
     unfold kindOf at hi
     split at hi
     · cases hi
       simp at h hn
       obtain ⟨h1,h2,h3⟩:=h
       rw [sort_none h1,empty_of h2,h3,hn]
       rename_i hk
       rw [hk]
       exact .nil
     split at hi
     · cases hi
       simp at h hn
       obtain ⟨h1,h2,h3⟩:=h
       obtain ⟨x,rfl⟩:=len_one hn
       rw [empty_of h2,h3]
       rename_i hk
       exact .pass k so x hk (sort_some h1).1 (sort_some h1).2 (hl x (by simp))
     split at hi
     · cases hi
       simp at h hn
       obtain ⟨h1,h2,h3⟩:=h
       obtain ⟨x,y,rfl⟩:=len_two hn
       rw [sort_none h1,empty_of h2,h3]
       rename_i hk
       exact .give k x y hk (hl x (by simp)) (hl y (by simp))
     split at hi
     · cases hi
       simp at h hn
       obtain ⟨h1,h2,h3⟩:=h
       rw [sort_none h1,empty_of h2]
       rename_i hk
       exact .pick k ls l hk h3 hn hl
     split at hi
     · cases hi
       simp at h hn
       obtain ⟨h1,h2,h3⟩:=h
       obtain ⟨x,rfl⟩:=len_one hn
       rw [sort_none h1,h3]
       rename_i hk
       rw [hk]
       exact .bind nm x h2 (hl x (by simp))
     split at hi
     · cases hi
       simp at h hn
       obtain ⟨h1,h2,h3⟩:=h
       rw [sort_none h1,h3,hn]
       rename_i hk
       rw [hk]
       exact .var nm h2
     · cases hi
   · cases h
 · cases h
mutual
theorem ok_tchk : ∀ (x : Tp) (b : List ByteArray) (left : Int),0 ≤ left → (tchk x b left).1 = 0 → OkT x ∧ (tchk x b left).2 = left - x.size
 | .mk k so nm ls l,b,left,h0,h=>by
  unfold tchk at h ⊢
  by_cases h1 : left - 1 < 0
  · rw [if_pos h1] at h;simp at h
  rw [if_neg h1] at h ⊢
  by_cases h2 : shapedB (.mk k so nm ls l) = false
  · rw [if_pos h2] at h;simp at h
  rw [if_neg h2] at h ⊢
  have key : ∀ b',(tchks l b' (left - 1)).1 = 0 → OkT (.mk k so nm ls l) ∧ (tchks l b' (left - 1)).2 = left - ((Tp.sizes l + 1 : Nat) : Int):=fun b' hb=>by
   have:=oks_tchk l b' (left - 1) (by omega) hb
   exact ⟨ok_shape (by simpa using h2) this.1,by rw [this.2];omega⟩
  simp only [Tp.size]
  by_cases h3 : k = 9
  · rw [if_pos h3] at h ⊢
    by_cases h4 : inL b nm = false
    · rw [if_pos h4] at h;simp at h
    · rw [if_neg h4] at h ⊢;exact key _ h
  rw [if_neg h3] at h ⊢
  by_cases h5 : k = 8
  · rw [if_pos h5] at h ⊢
    by_cases h6 : stripF l = 9
    · rw [if_pos h6] at h;simp at h
    · rw [if_neg h6] at h ⊢;exact key _ h
  · rw [if_neg h5] at h ⊢;exact key _ h
theorem oks_tchk : ∀ (l : List Tp) (b : List ByteArray) (left : Int),0 ≤ left → (tchks l b left).1 = 0 → (∀ x ∈ l,OkT x) ∧ (tchks l b left).2 = left - Tp.sizes l
 | [],b,left,h0,h=>by
  refine ⟨fun x hx=>(by cases hx),?_⟩
  simp [tchks,Tp.sizes]
 | x :: l,b,left,h0,h=>by
  unfold tchks at h ⊢
  split at h
  · rename_i he;exact absurd h he
  · rename_i he
    rw [if_neg he]
    have h1:=ok_tchk x b left h0 (by omega)
    have h2:=(tchk_left x b left h0).2 (by omega)
    have h3:=oks_tchk l b _ h2 h
    refine ⟨fun y hy=>?_,?_⟩
    · rcases List.mem_cons.1 hy with rfl | hy
      · exact h1.1
      · exact h3.1 y hy
    · rw [h3.2,h1.2]
      simp only [Tp.sizes]
      omega
end
theorem ok_check {x : Tp} (h : tCheck x = 0) : OkT x ∧ x.size ≤ 60:=by
 have h1:=ok_tchk x [] 60 (by omega) h
 have h2:=(tchk_left x [] 60 (by omega)).2 h
 exact ⟨h1.1,by omega⟩

end Go.Proofs.YtgecnlcbdbaneaaDoor
/- Arguments that are types, lists of texts, texts. -/
-- TYPESA
namespace Go.Proofs.YtgecnlcbdbaneaaDoor
open Go.RowKit Go.Sw

def GW (W : World) : Gl:=⟨W.heap.size,fun w => ∀ b,b < W.heap.size → w.heap[b]? = W.heap[b]?,fun w w' h g b hb=>(h b hb).trans (g b hb)⟩
def TY : List TypeId:=[25,23,22,9,3]
theorem TY_ok : TY.all (okT Tryd.prog TY) = true:=by kernel_rfl
theorem tds_map : ∀ l : List Tp,Tp.ds l = l.map Tp.d
 | []=>rfl
 | x :: l=>by simp [Tp.ds,tds_map l]
set_option maxRecDepth 100000 in
theorem tyStrs {m : Nat} {ds : List D} (h : Ty Tryd.prog m 22 ds) : ∃ ls : List ByteArray,ds = [.slc (ls.map sD)] ∧ ls.length ≤ reachBytes:=by
 obtain ⟨L,m2,hm2,rfl,hb,hx⟩:=ty_slc un22 h
 obtain ⟨ls,rfl, -⟩:=map_of (f:=sD) (p:=fun _=>True) (L:=L) fun x hm=>by
  obtain ⟨xs,h6,rfl⟩:=hx x hm
  obtain ⟨y,rfl, -⟩:=ty_str un9 h6
  exact ⟨y,mkD_one (by simp [un9]) _,trivial⟩
 refine ⟨ls,rfl,?_⟩
 rw [List.length_map,show Tryd.prog.bytesOf 9 = 16 by kernel_rfl] at hb
 omega
set_option maxRecDepth 100000 in
theorem tyT : ∀ (m : Nat) {ds : List D},Ty Tryd.prog m 25 ds → ∃ x : Tp,D.agg ds = x.d
 | 0,ds,h=>h.elim
 | m + 1,ds,h=>by
  obtain ⟨m',hm,a,b,rfl,h1,a2,b2,rfl,h2,a3,b3,rfl,h3,a4,b4,rfl,h4,a5,b5,rfl,h5,rfl⟩:=ty_struct Tryd.underlying25 h
  obtain rfl : m' = m:=by omega
  obtain ⟨k,rfl, -⟩:=ty_int un3 h1
  obtain ⟨so,rfl, -⟩:=ty_int un3 h2
  obtain ⟨nm,rfl, -⟩:=ty_str un9 h3
  obtain ⟨ls,rfl, -⟩:=tyStrs h4
  obtain ⟨L2,m3,hm3,rfl, -,hx2⟩:=ty_slc un23 h5
  obtain ⟨l,rfl, -⟩:=map_of (f:=Tp.d) (p:=fun _=>True) (L:=L2) fun x hm=>by
   obtain ⟨xs,h8,rfl⟩:=hx2 x hm
   subst hm3
   obtain ⟨y,h9⟩:=tyT m3 h8
   exact ⟨y,by rw [mkD_struct Tryd.underlying25,h9],trivial⟩
  exact ⟨.mk k so nm ls l,by rw [← tds_map];simp only [Tp.d,List.append_nil,List.cons_append,List.nil_append]⟩
section
variable {H : Type} {enc : TypeId × Value → H} {W : World} {r : Reach} {base b0 : Nat} {sp : Nat → Bool} {held : Bool} {v : Value} {d : DataW H} {p : List MemPlace}
set_option maxRecDepth 100000 in
theorem open25 (hv : Value.okWide Tryd.prog W r base 25 v) (h : DataW.Trod enc Tryd.prog W b0 sp held 25 v d p) (hw : (d.weights Tryd.prog 25).all (· ≤ reachBytes) = true) : ∃ x : Tp,RpD W M0 (.d x.d v) ∧ True:=by
 obtain ⟨m,xs,h1,h2⟩:=open_top TY_ok (by decide) hv h hw
 rw [mkD_struct Tryd.underlying25] at h2
 obtain ⟨x,h3⟩:=tyT m h1
 rw [h3] at h2
 exact ⟨x,h2,trivial⟩
end
end Go.Proofs.YtgecnlcbdbaneaaDoor
/- Facts on the types that the walks meet: sizes, zeros, fields, elements. -/

set_option maxRecDepth 100000
namespace Go.Proofs.YtgecnlcbdbaneaaDoor
open Go.Sw

theorem sz42 : szOf Tryd.prog 42 = some 1:=by kernel_rfl
theorem ag42 : aggB Tryd.prog 42 = some false:=by kernel_rfl
-- no zero of 42: tuple tuple 2 agg 5 int i64 0 int
theorem sz56 : szOf Tryd.prog 56 = some 1:=by kernel_rfl
theorem ag56 : aggB Tryd.prog 56 = some false:=by kernel_rfl
theorem zr56 : zeroS Tryd.prog 56 = some (.d (.v .nilFunc)):=by kernel_rfl
theorem sz69 : szOf Tryd.prog 69 = some 1:=by kernel_rfl
theorem ag69 : aggB Tryd.prog 69 = some false:=by kernel_rfl
theorem zr69 : zeroS Tryd.prog 69 = some (.nil):=by kernel_rfl
theorem el69 : elemSz Tryd.prog 69 = some 1:=by kernel_rfl
theorem un69 : Tryd.prog.underlying 69 = some (.slice 56):=by kernel_rfl
theorem by69 : elemBy Tryd.prog 69 = some 8:=by kernel_rfl
theorem ez69 : elemZ Tryd.prog 69 = true:=by kernel_rfl
theorem sz79 : szOf Tryd.prog 79 = some 1:=by kernel_rfl
theorem ag79 : aggB Tryd.prog 79 = some false:=by kernel_rfl
theorem zr79 : zeroS Tryd.prog 79 = some (.d (.v (.pointer none))):=by kernel_rfl
theorem sz100 : szOf Tryd.prog 100 = some 6:=by kernel_rfl
theorem ag100 : aggB Tryd.prog 100 = some true:=by kernel_rfl
theorem zr100 : zeroS Tryd.prog 100 = some (.agg [.d (.v (.int .i64 0)),.d (.v (.int .i64 0)),.d (.v (.string ⟨#[]⟩)),.nil,.nil,.nil]):=by kernel_rfl
theorem pl100 : plcs Tryd.prog 100 = some [(0,5),(5,1)]:=by kernel_rfl
theorem fl100_0 : fldOf Tryd.prog 100 0 = some (0,5):=by kernel_rfl
theorem pt100_0 : partOf Tryd.prog 100 0 = some (0,5):=by kernel_rfl
theorem fl100_1 : fldOf Tryd.prog 100 1 = some (5,1):=by kernel_rfl
theorem pt100_1 : partOf Tryd.prog 100 1 = some (5,1):=by kernel_rfl
theorem sz101 : szOf Tryd.prog 101 = some 1:=by kernel_rfl
theorem ag101 : aggB Tryd.prog 101 = some false:=by kernel_rfl
theorem zr101 : zeroS Tryd.prog 101 = some (.nil):=by kernel_rfl
theorem el101 : elemSz Tryd.prog 101 = some 6:=by kernel_rfl
theorem un101 : Tryd.prog.underlying 101 = some (.slice 100):=by kernel_rfl
theorem by101 : elemBy Tryd.prog 101 = some 104:=by kernel_rfl
theorem ez101 : elemZ Tryd.prog 101 = true:=by kernel_rfl
open And renaming intro → ai
theorem TBS : tyOf (ai sz42 (ai ag42 (ai sz56 (ai ag56 (ai zr56 (ai sz69 (ai ag69 (ai zr69 (ai el69 (ai un69 (ai by69 (ai ez69 (ai sz79 (ai ag79 (ai zr79 (ai sz100 (ai ag100 (ai zr100 (ai pl100 (ai fl100_0 (ai pt100_0 (ai fl100_1 (ai pt100_1 (ai sz101 (ai ag101 (ai zr101 (ai el101 (ai un101 (ai by101 ez101))))))))))))))))))))))))))))) := tyOk _
end Go.Proofs.YtgecnlcbdbaneaaDoor
/- Facts on the types that the walks meet: sizes, zeros, fields, elements. -/

set_option maxRecDepth 100000
namespace Go.Proofs.YtgecnlcbdbaneaaDoor
open Go.Sw

theorem sz21 : szOf Tryd.prog 21 = some 1:=by kernel_rfl
theorem ag21 : aggB Tryd.prog 21 = some false:=by kernel_rfl
theorem zr21 : zeroS Tryd.prog 21 = some (.d (.v (.int .i32 0))):=by kernel_rfl
theorem un21 : Tryd.prog.underlying 21 = some (.int .i32):=by kernel_rfl
open And renaming intro → ai
theorem TCS : tyOf (ai sz21 (ai ag21 (ai zr21 un21))) := tyOk _
end Go.Proofs.YtgecnlcbdbaneaaDoor
