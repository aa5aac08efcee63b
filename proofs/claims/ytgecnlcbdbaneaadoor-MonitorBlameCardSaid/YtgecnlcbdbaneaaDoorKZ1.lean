/- An end that is driven as what it is below is never to blame: plain. -/
import Derived.Test.YtgecnlcbdbaneaaDoorKV7
import Derived.Test.YtgecnlcbdbaneaaDoorKU1
import Derived.Test.YtgecnlcbdbaneaaDoorHC2
import Derived.Test.YtgecnlcbdbaneaaDoorHQ7
import Derived.Test.YtgecnlcbdbaneaaDoorU6
-- TYPESE
set_option linter.unusedVariables false
set_option linter.unusedSimpArgs false
namespace Go.Proofs.YtgecnlcbdbaneaaDoor
open Go.RowKit Go.Sw

structure Cw (t : Tp) : Prop where
 ok : OkT t
 cl : clT t []
 cn : cnT t
theorem cw_check {t : Tp} (h : tCheck t = 0) : Cw t:=⟨(check_all h).1,(check_all h).2.1,(check_all h).2.2.1⟩
theorem Cw.unf {t : Tp} (h : Cw t) : Unf t t:=⟨h.ok,h.cl,h.cn,fun _=>rfl,Nat.le_refl _⟩
theorem Cw.hd {t : Tp} (h : Cw t) : Cw (unfP t) ∧ (unfP t).kd ≠ 8 ∧ ∀ ρ,den (unfP t) ρ = den t ρ := by
 obtain ⟨hu,h8⟩:=unf_all _ t (Nat.le_refl _) h.unf
 exact ⟨⟨hu.ok,hu.cl,hu.cn⟩,h8,hu.dn⟩
theorem Cw.no9 {so : Int} {nm : ByteArray} {ls : List ByteArray} {l : List Tp} (h : Cw (.mk 9 so nm ls l)) : False:=by
 have:=h.cl
 unfold clT at this
 have:=this.1 rfl
 exact absurd (inL_iff.1 this) (by simp)
theorem Cw.kids {k so : Int} {nm : ByteArray} {ls : List ByteArray} {l : List Tp} (h : Cw (.mk k so nm ls l)) (h8 : k ≠ 8) : ∀ x ∈ l,Cw x:=by
 have hcl:=h.cl
 have hcn:=h.cn
 have hok:=h.ok
 unfold clT at hcl
 rw [if_neg h8] at hcl
 unfold cnT at hcn
 have a1 : ∀ l : List Tp,clTs l [] → ∀ x ∈ l,clT x []:=by
  intro l
  induction l with
  | nil=>intro _ x hx;cases hx
  | cons y l ih =>
   intro h x hx
   rcases List.mem_cons.1 hx with rfl | hx
   · exact h.1
   · exact ih h.2 x hx
 have a2 : ∀ l : List Tp,cnTs l → ∀ x ∈ l,cnT x:=by
  intro l
  induction l with
  | nil=>intro _ x hx;cases hx
  | cons y l ih =>
   intro h x hx
   rcases List.mem_cons.1 hx with rfl | hx
   · exact h.1
   · exact ih h.2 x hx
 have a3 : ∀ x ∈ l,OkT x:=by
  cases hok with
  | nil=>intro x hx;cases hx
  | pass k so x hk h1 h3 hx=>intro y hy;rw [show y = x by simpa using hy];exact hx
  | give k x y hk hx hy =>
   intro z hz
   rcases List.mem_cons.1 hz with rfl | hz
   · exact hx
   · rw [show z = y by simpa using hz];exact hy
  | pick k ls l hk hl hn h=>exact h
  | bind nm x hn hx=>exact absurd rfl h8
  | var nm hn=>intro x hx;cases hx
 exact fun x hx=>⟨a3 x hx,a1 l hcl.2 x hx,a2 l hcn.2 x hx⟩
theorem Cw.tree {t : Tp} (h : Cw t) {k so : Int} {nm : ByteArray} {ls : List ByteArray} {l : List Tp} (e : unfP t = .mk k so nm ls l) (n : Nat) : den t eps (n + 1) = .nd k so ls (l.map fun x=>den x eps n):=by
 obtain ⟨h1,h2,h3⟩:=h.hd
 rw [e] at h1 h2 h3
 have h8 : k ≠ 8:=h2
 have h9 : k ≠ 9:=fun q=>by subst q;exact h1.no9
 rw [← h3 eps]
 exact (den_node h9 h8 eps n).1
structure Inv (g : List Nd) (a : Int) (s t : Tp) : Prop where
 cs : Cw s
 ct : Cw t
 rg : 0 ≤ a ∧ a < (g.length : Int)
 ob : ∀ n,obs g n a = den s eps n
 be : ∀ n,subT n (den s eps n) (den t eps n)
section
variable {g : List Nd} {a : Int} {s t : Tp} {k so : Int} {nm : ByteArray} {ls : List ByteArray} {l : List Tp} {k' so' : Int} {nm' : ByteArray} {ls' : List ByteArray} {l' : List Tp}
theorem Inv.node (I : Inv g a s t) (e : unfP s = .mk k so nm ls l) : (gAt g a).k = k ∧ (gAt g a).so = so ∧ (gAt g a).ls = ls ∧ (gAt g a).to.length = l.length ∧ ∀ (i : Nat) x,l[i]? = some x → ∀ n,obs g n ((gAt g a).to.getD i 0) = den x eps n:=by
 have key : ∀ n,(gAt g a).k = k ∧ (gAt g a).so = so ∧ (gAt g a).ls = ls ∧ (gAt g a).to.map (obs g n) = l.map fun x=>den x eps n:=fun n=>by
  have:=I.ob (n + 1)
  rw [I.cs.tree e n,obs] at this
  simpa using this
 have hl : (gAt g a).to.length = l.length:=by
  have:=congrArg List.length (key 0).2.2.2
  simpa using this
 refine ⟨(key 0).1,(key 0).2.1,(key 0).2.2.1,hl,fun i x hx n=>?_⟩
 have hi:=(List.getElem?_eq_some_iff.1 hx).1
 have e1:=getD_map (obs g n) (l:=(gAt g a).to) (i:=i) (by omega) 0 Tr.cut
 rw [← e1,(key n).2.2.2]
 simp [List.getD,hx]
theorem Inv.step (I : Inv g a s t) (Hg : Gd g) (e : unfP s = .mk k so nm ls l) (e' : unfP t = .mk k' so' nm' ls' l') {p q : Nat} {x y : Tp} (hx : l[p]? = some x) (hy : l'[q]? = some y) (hb : ∀ n,subT n (den x eps n) (den y eps n)) : Inv g ((gAt g a).to.getD p 0) x y:=by
 have h1:=I.cs.hd
 have h2:=I.ct.hd
 rw [e] at h1
 rw [e'] at h2
 exact ⟨h1.1.kids h1.2.1 x (List.mem_of_getElem? hx),h2.1.kids h2.2.1 y (List.mem_of_getElem? hy),Hg.to I.rg p,(I.node e).2.2.2.2 p x hx,hb⟩
theorem Inv.sub (I : Inv g a s t) (e : unfP s = .mk k so nm ls l) (e' : unfP t = .mk k' so' nm' ls' l') (n : Nat) : subT (n + 1) (.nd k so ls (l.map fun x=>den x eps n)) (.nd k' so' ls' (l'.map fun x=>den x eps n)):=by
 rw [← I.cs.tree e n, ← I.ct.tree e' n]
 exact I.be (n + 1)
theorem Inv.heads (I : Inv g a s t) (e : unfP s = .mk k so nm ls l) (e' : unfP t = .mk k' so' nm' ls' l') : k = k' ∧ so = so':=⟨(I.sub e e' 0).1,(I.sub e e' 0).2.1⟩
theorem Inv.pass (I : Inv g a s t) (Hg : Gd g) {x y : Tp} (e : unfP s = .mk k so nm ls [x]) (e' : unfP t = .mk k' so' nm' ls' [y]) (hk : k = 2 ∨ k = 3) (c : Tp) (lab : ByteArray) : nxtM g (gAt g a) k so c lab = (gAt g a).to.getD 0 0 ∧ Inv g ((gAt g a).to.getD 0 0) x y:=by
 obtain ⟨n1,n2,n3,n4,n5⟩:=I.node e
 refine ⟨?_,I.step Hg e e' (p:=0) (q:=0) rfl rfl fun n=>?_⟩
 · unfold nxtM
   rw [if_pos n1,if_pos hk,if_pos n2]
 · have:=(I.sub e e' n).2.2.1 hk
   simpa [kid] using this
theorem Inv.give (I : Inv g a s t) (Hg : Gd g) (hl : g.length ≤ 199) {x y x' y' : Tp} (e : unfP s = .mk 4 so nm ls [x,y]) (e' : unfP t = .mk k' so' nm' ls' [x',y']) (hc : tCheck x' = 0) (vs : Int) (lab : ByteArray) : nxtM g (gAt g a) 4 vs x' lab = (gAt g a).to.getD 1 0 ∧ Inv g ((gAt g a).to.getD 1 0) y y':=by
 obtain ⟨n1,n2,n3,n4,n5⟩:=I.node e
 have hs:=fun n=>(I.sub e e' n).2.2.2.1 rfl
 refine ⟨?_,I.step Hg e e' (p:=1) (q:=1) rfl rfl fun n=>by simpa [kid] using (hs n).2⟩
 have hto:=Hg.to I.rg 0
 have hcar : carP g (gAt g a) x' = true:=by
  unfold carP
  rw [sub_iff (ofP_gd hc) (from_gd Hg hl hto.1 hto.2)]
  intro n
  rw [from_obs0 Hg hto.1 hto.2,ofP_obs hc,trT_den hc eps,n5 0 x rfl n]
  simpa [kid] using (hs n).1
 unfold nxtM
 rw [if_pos n1,if_neg (by decide),if_pos (by decide),if_pos hcar]
theorem Inv.take (I : Inv g a s t) (Hg : Gd g) (hl : g.length ≤ 199) {x y x' y' : Tp} (e : unfP s = .mk 5 so nm ls [x,y]) (e' : unfP t = .mk k' so' nm' ls' [x',y']) (hc : tCheck x = 0) (vs : Int) (lab : ByteArray) : nxtM g (gAt g a) 5 vs x lab = (gAt g a).to.getD 1 0 ∧ Inv g ((gAt g a).to.getD 1 0) y y':=by
 obtain ⟨n1,n2,n3,n4,n5⟩:=I.node e
 have hs:=fun n=>(I.sub e e' n).2.2.2.2.1 rfl
 refine ⟨?_,I.step Hg e e' (p:=1) (q:=1) rfl rfl fun n=>by simpa [kid] using (hs n).2⟩
 have hto:=Hg.to I.rg 0
 have hcar : carP g (gAt g a) x = true:=by
  unfold carP
  rw [sub_iff (ofP_gd hc) (from_gd Hg hl hto.1 hto.2)]
  intro n
  rw [from_obs0 Hg hto.1 hto.2,ofP_obs hc,trT_den hc eps,n5 0 x rfl n]
  exact sub_refl n _
 unfold nxtM
 rw [if_pos n1,if_neg (by decide),if_pos (by decide),if_pos hcar]
theorem kidL_den {ls : List ByteArray} {l : List Tp} {i : Nat} {x : ByteArray} {y : Tp} (hn : ls.Nodup) (h : ls[i]? = some x) (hy : l[i]? = some y) (n : Nat) : kidL ls (l.map fun x=>den x eps n) x = den y eps n:=kidL_at hn h (by simp [hy])
theorem Inv.pick (I : Inv g a s t) (Hg : Gd g) (e : unfP s = .mk 6 so nm ls l) (e' : unfP t = .mk k' so' nm' ls' l') (hn : ls.Nodup) (hn' : ls'.Nodup) (hl : l.length = ls.length) (hl' : l'.length = ls'.length) (vs : Int) (c : Tp) {q : Nat} {lab : ByteArray} (hq : ls'[q]? = some lab) :
 ∃ p x y,idxS lab.toList ls 0 = ((p : Nat) : Int) ∧ l[p]? = some x ∧ l'[q]? = some y ∧ nxtM g (gAt g a) 6 vs c lab = (gAt g a).to.getD p 0 ∧ Inv g ((gAt g a).to.getD p 0) x y:=by
 obtain ⟨n1,n2,n3,n4,n5⟩:=I.node e
 have hs:=fun n=>(I.sub e e' n).2.2.2.2.2.1 rfl lab (List.mem_of_getElem? hq)
 obtain ⟨p,hp⟩:=List.getElem?_of_mem (hs 0).1
 have hpl:=(List.getElem?_eq_some_iff.1 hp).1
 have hql:=(List.getElem?_eq_some_iff.1 hq).1
 obtain ⟨x,hx⟩ : ∃ x,l[p]? = some x:=⟨l[p]'(by omega),by simp⟩
 obtain ⟨y,hy⟩ : ∃ y,l'[q]? = some y:=⟨l'[q]'(by omega),by simp⟩
 have hix : idxS lab.toList ls 0 = ((p : Nat) : Int):=by rw [ix_at hn hp];simp
 refine ⟨p,x,y,hix,hx,hy,?_,I.step Hg e e' hx hy fun n=>?_⟩
 · unfold nxtM
   rw [if_pos n1,if_neg (by decide),if_neg (by decide),n3]
   unfold ixL
   rw [hix,if_pos (by omega),Int.toNat_natCast]
 · have:=(hs n).2
   rwa [kidL_den hn hp hx,kidL_den hn' hq hy] at this
theorem Inv.offer (I : Inv g a s t) (Hg : Gd g) (e : unfP s = .mk 7 so nm ls l) (e' : unfP t = .mk k' so' nm' ls' l') (hn : ls.Nodup) (hn' : ls'.Nodup) (hl : l.length = ls.length) (hl' : l'.length = ls'.length) (vs : Int) (c : Tp) {p : Nat} {lab : ByteArray} (hp : ls[p]? = some lab) :
 ∃ q x y,idxS lab.toList ls' 0 = ((q : Nat) : Int) ∧ l[p]? = some x ∧ l'[q]? = some y ∧ nxtM g (gAt g a) 7 vs c lab = (gAt g a).to.getD p 0 ∧ Inv g ((gAt g a).to.getD p 0) x y:=by
 obtain ⟨n1,n2,n3,n4,n5⟩:=I.node e
 have hs:=fun n=>(I.sub e e' n).2.2.2.2.2.2 (by decide) (by decide) (by decide) lab (List.mem_of_getElem? hp)
 obtain ⟨q,hq⟩:=List.getElem?_of_mem (hs 0).1
 have hpl:=(List.getElem?_eq_some_iff.1 hp).1
 have hql:=(List.getElem?_eq_some_iff.1 hq).1
 obtain ⟨x,hx⟩ : ∃ x,l[p]? = some x:=⟨l[p]'(by omega),by simp⟩
 obtain ⟨y,hy⟩ : ∃ y,l'[q]? = some y:=⟨l'[q]'(by omega),by simp⟩
 have hix : idxS lab.toList ls 0 = ((p : Nat) : Int):=by rw [ix_at hn hp];simp
 refine ⟨q,x,y,by rw [ix_at hn' hq];simp,hx,hy,?_,I.step Hg e e' hx hy fun n=>?_⟩
 · unfold nxtM
   rw [if_pos n1,if_neg (by decide),if_neg (by decide),n3]
   unfold ixL
   rw [hix,if_pos (by omega),Int.toNat_natCast]
 · have:=(hs n).2
   rwa [kidL_den hn hp hx,kidL_den hn' hq hy] at this
end
theorem inv_start {s t : Tp} (h : bErr s t = 0) (hb : isP s t = true) : Inv (ofP s) 0 s t:=by
 have hs : tCheck s = 0:=by
  unfold bErr at h
  by_cases q : tCheck s = 0
  · exact q
  · rw [if_neg q] at h;exact absurd h q
 have ht : tCheck t = 0:=by unfold bErr at h;rwa [if_pos hs] at h
 have hg:=ofP_gd hs
 refine ⟨cw_check hs,cw_check ht,⟨by omega,by have:=hg.pos;omega⟩,fun n=>by rw [ofP_obs hs,trT_den hs eps],fun n=>?_⟩
 have:=(is_iff h).1 hb n
 rwa [trT_den hs eps,trT_den ht eps] at this
end Go.Proofs.YtgecnlcbdbaneaaDoor
/- graph.Back in plain words: the type that it answers does what the graph does. -/
namespace Go.Proofs.YtgecnlcbdbaneaaDoor
open Go.RowKit Go.Sw

def nameP (k : Int) : ByteArray:=if k < 26 then ⟨#[(97 + k).toNat.toUInt8]⟩ else ⟨#[(97 + k / 26 - 1).toNat.toUInt8,(97 + k % 26).toNat.toUInt8]⟩
structure BkSt where
 on : List Int
 left : Int
def tp0 : Tp:=.mk 0 0 ⟨#[]⟩ [] []
structure Mk (on on' : List Int) : Prop where
 ln : on'.length = on.length
 z : ∀ j : Nat,on.getD j 0 = 0 → on'.getD j 0 = 0
 o : ∀ j : Nat,on.getD j 0 = 1 → on'.getD j 0 = 1 ∨ on'.getD j 0 = 2
 t : ∀ j : Nat,on.getD j 0 = 2 → on'.getD j 0 = 2
structure Ms (n : Nat) (on : List Int) : Prop where
 ln : on.length = n
 m : ∀ j : Nat,on.getD j 0 = 0 ∨ on.getD j 0 = 1 ∨ on.getD j 0 = 2
theorem Mk.refl (on : List Int) : Mk on on:=⟨rfl,fun _ h=>h,fun _ h=>.inl h,fun _ h=>h⟩
theorem Mk.trans {a b c : List Int} (h : Mk a b) (k : Mk b c) : Mk a c :=
 ⟨k.ln.trans h.ln,fun j hj=>k.z j (h.z j hj),fun j hj=>by
  rcases h.o j hj with h | h
  · exact k.o j h
  · exact .inr (k.t j h),fun j hj=>k.t j (h.t j hj)⟩
theorem getD_set {l : List Int} {i j : Nat} {v : Int} (hi : i < l.length) : (l.set i v).getD j 0 = if j = i then v else l.getD j 0:=by
 by_cases h : j = i
 · subst h;simp [List.getD,hi]
 · rw [if_neg h];simp [List.getD,List.getElem?_set_ne (Ne.symm h)]
structure BkOK (g : List Nd) (k : Int) (x : Tp) (st st' : BkSt) : Prop where
 mr : Mk st.on st'.on
 ok : OkT x
 cn : cnT x
 cl : ∀ b,(∀ j : Nat,j < g.length → 0 < st.on.getD j 0 → st'.on.getD j 0 = 2 → nameP j ∈ b) → clT x b
 sz : st'.left = st.left - x.size
 dn : ∀ ρ : Env,(∀ j : Nat,j < g.length → 0 < st.on.getD j 0 → st'.on.getD j 0 = 2 → ρ (nameP j) = fun n=>obs g n j) → den x ρ = fun n=>obs g n k
structure BksOK (g : List Nd) (l : List Int) (xs : List Tp) (st st' : BkSt) : Prop where
 mr : Mk st.on st'.on
 ln : xs.length = l.length
 ok : ∀ x ∈ xs,OkT x
 cn : cnTs xs
 cl : ∀ b,(∀ j : Nat,j < g.length → 0 < st.on.getD j 0 → st'.on.getD j 0 = 2 → nameP j ∈ b) → clTs xs b
 sz : st'.left = st.left - Tp.sizes xs
 dn : ∀ ρ : Env,(∀ j : Nat,j < g.length → 0 < st.on.getD j 0 → st'.on.getD j 0 = 2 → ρ (nameP j) = fun n=>obs g n j) → ∀ n,(xs.map fun x=>den x ρ n) = l.map fun k=>obs g n k
theorem Mk.pos {a b : List Int} {n : Nat} (h : Mk a b) (ha : Ms n a) {j : Nat} (hj : 0 < a.getD j 0) : 0 < b.getD j 0:=by
 rcases ha.m j with e | e | e
 · omega
 · rcases h.o j e with e | e <;> omega
 · have:=h.t j e;omega
end Go.Proofs.YtgecnlcbdbaneaaDoor
/- graph.name; a symbolic walk. -/
-- TYPESC
namespace Go.Sw
open Go.RowKit
section
variable {P : Program} {N : Nat} {Γ : Gl} {C : Cx P N Γ} {K : Exit → Env → St → Prop} {e : Env} {s : St}
end
end Go.Sw
namespace Go.Proofs.YtgecnlcbdbaneaaDoor
open Go.RowKit Go.Sw

theorem ds_mapT : ∀ l : List Tp,Tp.ds l = l.map Tp.d
 | []=>rfl
 | x :: l=>by simp [Tp.ds,ds_mapT l]
theorem ds_appT (l : List Tp) (x : Tp) : Tp.ds (l ++ [x]) = Tp.ds l ++ [x.d]:=by simp [ds_mapT]
end Go.Proofs.YtgecnlcbdbaneaaDoor
/- types.size; a symbolic walk. -/
-- TYPESC
namespace Go.Proofs.YtgecnlcbdbaneaaDoor
open Go.RowKit Go.Sw

end Go.Proofs.YtgecnlcbdbaneaaDoor
/- types.put, types.twin, types.Unfold; a symbolic walk. -/
-- TYPESC
namespace Go.Proofs.YtgecnlcbdbaneaaDoor
open Go.RowKit Go.Sw

end Go.Proofs.YtgecnlcbdbaneaaDoor
