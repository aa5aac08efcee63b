/- Types that are right: plain. -/
import Derived.Test.YtgecnlcbdbaneaaDoorU5
import Derived.Test.YtgecnlcbdbaneaaDoorSwC
import Derived.Test.YtgecnlcbdbaneaaDoorFrame
set_option linter.unusedVariables false
set_option linter.unusedSimpArgs false
namespace Go.Proofs.YtgecnlcbdbaneaaDoor
open Go.RowKit Go.Sw

abbrev noB : ByteArray:=⟨#[]⟩
theorem vi0 {s : ByteArray} (h : xd8 s = true) : s = noB:=by
 unfold xd8 at h
 have h:=eq_of_beq h
 rw [Lib.toList_data,Lib.toList_data] at h
 obtain ⟨d⟩:=s
 have : d = #[]:=Array.toList_inj.1 h
 rw [this]
inductive OkT : Tp → Prop
 | nil : OkT (.mk 1 0 noB [] [])
 | pass (k so : Int) (x : Tp) (hk : k = 2 ∨ k = 3) (h1 : 1 ≤ so) (h3 : so ≤ 3) (hx : OkT x) : OkT (.mk k so noB [] [x])
 | give (k : Int) (x y : Tp) (hk : k = 4 ∨ k = 5) (hx : OkT x) (hy : OkT y) : OkT (.mk k 0 noB [] [x,y])
 | pick (k : Int) (ls : List ByteArray) (l : List Tp) (hk : k = 6 ∨ k = 7) (hl : qh8 ls = true) (hn : l.length = ls.length) (h : ∀ x ∈ l,OkT x) : OkT (.mk k 0 noB ls l)
 | bind (nm : ByteArray) (x : Tp) (hn : vb8 nm = true) (hx : OkT x) : OkT (.mk 8 0 nm [] [x])
 | var (nm : ByteArray) (hn : vb8 nm = true) : OkT (.mk 9 0 nm [] [])
theorem qs9 {so : Int} (h : vg6 false so = true) : so = 0:=by
 simpa [vg6] using h
theorem xa3 {so : Int} (h : vg6 true so = true) : 1 ≤ so ∧ so ≤ 3:=by
 simpa [vg6] using h
theorem xz3 {α : Type} {l : List α} (h : l.length = 1) : ∃ x,l = [x]:=by
 match l,h with
 | [x],_=>exact ⟨x,rfl⟩
theorem len_two {α : Type} {l : List α} (h : l.length = 2) : ∃ x y,l = [x,y]:=by
 match l,h with
 | [x,y],_=>exact ⟨x,y,rfl⟩
theorem xo9 {k so : Int} {nm : ByteArray} {ls : List ByteArray} {l : List Tp} (h : qg0 (.mk k so nm ls l) = true) (hl : ∀ x ∈ l,OkT x) : OkT (.mk k so nm ls l):=by
 simp only [qg0] at h
 split at h
 · rename_i i hi
   simp only [vf8] at h
   split at h
   · rename_i hn
     unfold kindOf at hi
     split at hi
     · cases hi
       simp at h hn
       obtain ⟨h1,h2,h3⟩:=h
       rw [qs9 h1,vi0 h2,h3,hn]
       rename_i hk
       rw [hk]
       exact .nil
     split at hi
     · cases hi
       simp at h hn
       obtain ⟨h1,h2,h3⟩:=h
       obtain ⟨x,rfl⟩:=xz3 hn
       rw [vi0 h2,h3]
       rename_i hk
       exact .pass k so x hk (xa3 h1).1 (xa3 h1).2 (hl x (by simp))
     split at hi
     · cases hi
       simp at h hn
       obtain ⟨h1,h2,h3⟩:=h
       obtain ⟨x,y,rfl⟩:=len_two hn
       rw [qs9 h1,vi0 h2,h3]
       rename_i hk
       exact .give k x y hk (hl x (by simp)) (hl y (by simp))
     split at hi
     · cases hi
       simp at h hn
       obtain ⟨h1,h2,h3⟩:=h
       rw [qs9 h1,vi0 h2]
       rename_i hk
       exact .pick k ls l hk h3 hn hl
     split at hi
     · cases hi
       simp at h hn
       obtain ⟨h1,h2,h3⟩:=h
       obtain ⟨x,rfl⟩:=xz3 hn
       rw [qs9 h1,h3]
       rename_i hk
       rw [hk]
       exact .bind nm x h2 (hl x (by simp))
     split at hi
     · cases hi
       simp at h hn
       obtain ⟨h1,h2,h3⟩:=h
       rw [qs9 h1,h3,hn]
       rename_i hk
       rw [hk]
       exact .var nm h2
     · cases hi
   · cases h
 · cases h
mutual
theorem yf4 : ∀ (x : Tp) (b : List ByteArray) (left : Int),0 ≤ left → (qx2 x b left).1 = 0 → OkT x ∧ (qx2 x b left).2 = left - x.size
 | .mk k so nm ls l,b,left,h0,h=>by
  unfold qx2 at h ⊢
  by_cases h1 : left - 1 < 0
  · rw [if_pos h1] at h;simp at h
  rw [if_neg h1] at h ⊢
  by_cases h2 : qg0 (.mk k so nm ls l) = false
  · rw [if_pos h2] at h;simp at h
  rw [if_neg h2] at h ⊢
  have key : ∀ b',(qi0 l b' (left - 1)).1 = 0 → OkT (.mk k so nm ls l) ∧ (qi0 l b' (left - 1)).2 = left - ((Tp.sizes l + 1 : Nat) : Int):=fun b' hb=>by
   have:=xm2 l b' (left - 1) (by omega) hb
   exact ⟨xo9 (by simpa using h2) this.1,by rw [this.2];omega⟩
  simp only [Tp.size]
  by_cases h3 : k = 9
  · rw [if_pos h3] at h ⊢
    by_cases h4 : inL b nm = false
    · rw [if_pos h4] at h;simp at h
    · rw [if_neg h4] at h ⊢;exact key _ h
  rw [if_neg h3] at h ⊢
  by_cases h5 : k = 8
  · rw [if_pos h5] at h ⊢
    by_cases h6 : xc3 l = 9
    · rw [if_pos h6] at h;simp at h
    · rw [if_neg h6] at h ⊢;exact key _ h
  · rw [if_neg h5] at h ⊢;exact key _ h
theorem xm2 : ∀ (l : List Tp) (b : List ByteArray) (left : Int),0 ≤ left → (qi0 l b left).1 = 0 → (∀ x ∈ l,OkT x) ∧ (qi0 l b left).2 = left - Tp.sizes l
 | [],b,left,h0,h=>by
  refine ⟨fun x hx=>(by cases hx),?_⟩
  simp [qi0,Tp.sizes]
 | x :: l,b,left,h0,h=>by
  unfold qi0 at h ⊢
  split at h
  · rename_i he;exact absurd h he
  · rename_i he
    rw [if_neg he]
    have h1:=yf4 x b left h0 (by omega)
    have h2:=(qz8 x b left h0).2 (by omega)
    have h3:=xm2 l b _ h2 h
    refine ⟨fun y hy=>?_,?_⟩
    · rcases List.mem_cons.1 hy with rfl | hy
      · exact h1.1
      · exact h3.1 y hy
    · rw [h3.2,h1.2]
      simp only [Tp.sizes]
      omega
end
theorem xo5 {x : Tp} (h : qd9 x = 0) : OkT x ∧ x.size ≤ 60:=by
 have h1:=yf4 x [] 60 (by omega) h
 have h2:=(qz8 x [] 60 (by omega)).2 h
 exact ⟨h1.1,by omega⟩

end Go.Proofs.YtgecnlcbdbaneaaDoor
/- Arguments that are types, lists of texts, texts. -/
-- TYPESA
namespace Go.Proofs.YtgecnlcbdbaneaaDoor
open Go.RowKit Go.Sw

def GW (W : World) : Gl:=⟨W.heap.size,fun w => ∀ b,b < W.heap.size → w.heap[b]? = W.heap[b]?,fun w w' h g b hb=>(h b hb).trans (g b hb)⟩
def TY : List TypeId:=[25,23,22,9,3]
theorem TY_ok : TY.all (okT Tryd.prog TY) = true:=by kernel_rfl
theorem xy6 : ∀ l : List Tp,Tp.ds l = l.map Tp.d
 | []=>rfl
 | x :: l=>by simp [Tp.ds,xy6 l]
set_option maxRecDepth 100000 in
theorem tyStrs {m : Nat} {ds : List D} (h : Ty Tryd.prog m 22 ds) : ∃ ls : List ByteArray,ds = [.slc (ls.map sD)] ∧ ls.length ≤ reachBytes:=by
 obtain ⟨L,m2,hm2,rfl,hb,hx⟩:=yy6 un22 h
 obtain ⟨ls,rfl, -⟩:=yl6 (f:=sD) (p:=fun _=>True) (L:=L) fun x hm=>by
  obtain ⟨xs,h6,rfl⟩:=hx x hm
  obtain ⟨y,rfl, -⟩:=yw8 un9 h6
  exact ⟨y,mkD_one (by simp [un9]) _,trivial⟩
 refine ⟨ls,rfl,?_⟩
 rw [List.length_map,show Tryd.prog.bytesOf 9 = 16 by kernel_rfl] at hb
 omega
set_option maxRecDepth 100000 in
theorem tyT : ∀ (m : Nat) {ds : List D},Ty Tryd.prog m 25 ds → ∃ x : Tp,D.agg ds = x.d
 | 0,ds,h=>h.elim
 | m + 1,ds,h=>by
  obtain ⟨m',hm,a,b,rfl,h1,a2,b2,rfl,h2,a3,b3,rfl,h3,a4,b4,rfl,h4,a5,b5,rfl,h5,rfl⟩:=yj3 Tryd.underlying25 h
  obtain rfl : m' = m:=by omega
  obtain ⟨k,rfl, -⟩:=yw4 un3 h1
  obtain ⟨so,rfl, -⟩:=yw4 un3 h2
  obtain ⟨nm,rfl, -⟩:=yw8 un9 h3
  obtain ⟨ls,rfl, -⟩:=tyStrs h4
  obtain ⟨L2,m3,hm3,rfl, -,hx2⟩:=yy6 un23 h5
  obtain ⟨l,rfl, -⟩:=yl6 (f:=Tp.d) (p:=fun _=>True) (L:=L2) fun x hm=>by
   obtain ⟨xs,h8,rfl⟩:=hx2 x hm
   subst hm3
   obtain ⟨y,h9⟩:=tyT m3 h8
   exact ⟨y,by rw [vp6 Tryd.underlying25,h9],trivial⟩
  exact ⟨.mk k so nm ls l,by rw [← xy6];simp only [Tp.d,List.append_nil,List.cons_append,List.nil_append]⟩
section
variable {H : Type} {enc : TypeId × Value → H} {W : World} {r : Reach} {base b0 : Nat} {sp : Nat → Bool} {held : Bool} {v : Value} {d : DataW H} {p : List MemPlace}
set_option maxRecDepth 100000 in
theorem xy8 (hv : Value.okWide Tryd.prog W r base 25 v) (h : DataW.Trod enc Tryd.prog W b0 sp held 25 v d p) (hw : (d.weights Tryd.prog 25).all (· ≤ reachBytes) = true) : ∃ x : Tp,RpD W M0 (.d x.d v) ∧ True:=by
 obtain ⟨m,xs,h1,h2⟩:=yo6 TY_ok (by decide) hv h hw
 rw [vp6 Tryd.underlying25] at h2
 obtain ⟨x,h3⟩:=tyT m h1
 rw [h3] at h2
 exact ⟨x,h2,trivial⟩
end
end Go.Proofs.YtgecnlcbdbaneaaDoor
