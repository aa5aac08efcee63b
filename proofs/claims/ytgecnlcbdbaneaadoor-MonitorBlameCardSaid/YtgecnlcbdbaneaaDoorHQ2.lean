/- The least graph does the same, and there is one only. -/
import Derived.Test.YtgecnlcbdbaneaaDoorHQ1
set_option linter.unusedVariables false
set_option linter.unusedSimpArgs false
namespace Go.Proofs.YtgecnlcbdbaneaaDoor
open Go.RowKit Go.Sw

structure GC (g : List Nd) (cl : List Int) : Prop where
 ok : ∀ n ∈ g,NdG g.length n
 eq : ∀ i j : Nat,i < g.length → j < g.length → (cl.getD i 0 = cl.getD j 0 ↔ ∀ n,obs g n i = obs g n j)
theorem GC.cls {g : List Nd} {cl : List Int} (h : GC g cl) {a b : Int} (ha : 0 ≤ a ∧ a < (g.length : Int)) (hb : 0 ≤ b ∧ b < (g.length : Int)) : cOf cl a = cOf cl b ↔ ∀ n,obs g n a = obs g n b:=by
 have:=h.eq a.toNat b.toNat (by omega) (by omega)
 rwa [show ((a.toNat : Nat) : Int) = a by omega,show ((b.toNat : Nat) : Int) = b by omega] at this
def Par (g h : List Nd) (o o' : List Int) : Prop:=o.length = o'.length ∧ ∀ (i : Nat) (a b : Int),o[i]? = some a → o'[i]? = some b → ∀ n,obs g n a = obs h n b
def inR (g : List Nd) (o : List Int) : Prop := ∀ v ∈ o,0 ≤ v ∧ v < (g.length : Int)
theorem Par.cons {g h : List Nd} {o o' : List Int} {a b : Int} (hp : Par g h (a :: o) (b :: o')) : (∀ n,obs g n a = obs h n b) ∧ Par g h o o' :=
 ⟨hp.2 0 a b rfl rfl,by have:=hp.1;simpa using this,fun i x y hx hy=>hp.2 (i + 1) x y (by simpa using hx) (by simpa using hy)⟩
theorem inR.add {g : List Nd} {o : List Int} (ho : inR g o) {a : Int} (ha : 0 ≤ a ∧ a < (g.length : Int)) (cl : List Int) : inR g (addO cl o a):=by
 unfold addO
 split
 · exact ho
 · intro v hv
   rcases List.mem_append.1 hv with hv | hv
   · exact ho v hv
   · rw [List.mem_singleton] at hv;subst hv;exact ha
theorem gc_parted {g : List Nd} (hg : ∀ n ∈ g,NdG g.length n) (h0 : 0 < g.length) : GC g (partedP g):=⟨hg,fun _ _ hi hj=>parted_spec hg h0 hi hj⟩
theorem ord_one {g : List Nd} (h0 : 0 < g.length) (cl : List Int) : OrdI cl g.length [0]:=⟨by simp;omega,by simp⟩
def Made (g : List Nd) (cl : List Int) (o : List Int) (out : List Nd) : Prop :=
 ∀ (p : Nat) (x : Nd) (v : Int),out[p]? = some x → o[p]? = some v → x.k = (gAt g v).k ∧ x.so = (gAt g v).so ∧ x.ls = (gAt g v).ls ∧ x.to.length = (gAt g v).to.length ∧
   ∀ (q : Nat) (t u : Int),x.to[q]? = some t → (gAt g v).to[q]? = some u → 0 ≤ t ∧ ∃ w,o[t.toNat]? = some w ∧ cOf cl w = cOf cl u
theorem plI_get {cl : List Int} {c : Int} {Cs : List Int} (h : c ∈ Cs) : 0 ≤ plI c Cs ∧ Cs[(plI c Cs).toNat]? = some c:=by
 unfold plI
 cases hi : ixI c Cs 0 with
 | none=>exact absurd h (ixI_none hi)
 | some p =>
  refine ⟨by simp,?_⟩
  have : ∀ {Cs : List Int} {i p : Nat},ixI c Cs i = some p → Cs[p - i]? = some c:=fun {Cs}=>by
   induction Cs with
   | nil=>intro i p h;cases h
   | cons x l ih =>
    intro i p h
    unfold ixI at h
    cases hb : c == x with
    | true =>
     rw [hb] at h
     simp at h
     subst h
     have : c = x:=by simpa using hb
     simp [this]
    | false =>
     rw [hb,cond_false] at h
     have h1:=ixI_lt h
     have:=ih h
     rw [show p - i = (p - (i + 1)) + 1 by omega,List.getElem?_cons_succ]
     exact this
  have:=this hi
  simpa using this
theorem rowO_made (cl : List Int) : ∀ (t o : List Int) (q : Nat) (a u : Int),(rowO cl t o).1[q]? = some a → t[q]? = some u → 0 ≤ a ∧ ∃ w,(rowO cl t o).2[a.toNat]? = some w ∧ cOf cl w = cOf cl u
 | x :: t,o,0,a,u,h,hu=>by
  simp only [rowO,List.getElem?_cons_zero,Option.some.injEq] at h hu
  subst hu
  have hg:=plI_get (cl:=cl) (addO_mem cl o x)
  rw [h] at hg
  rw [List.getElem?_map] at hg
  cases hw : (addO cl o x)[a.toNat]? with
  | none=>rw [hw] at hg;simp at hg
  | some w =>
   rw [hw] at hg
   simp only [Option.map_some,Option.some.injEq] at hg
   refine ⟨hg.1,w,?_,hg.2⟩
   simp only [rowO]
   rw [(rowO_sub cl t (addO cl o x)).2 _ (List.getElem?_eq_some_iff.1 hw).1]
   exact hw
 | x :: t,o,q + 1,a,u,h,hu=>by
  simp only [rowO,List.getElem?_cons_succ] at h hu ⊢
  exact rowO_made cl t _ q a u h hu
theorem lstF_made {g : List Nd} {cl : List Int} (hg : ∀ n ∈ g,NdG g.length n) : ∀ (f at' : Nat) (o : List Int) (out : List Nd),OrdI cl g.length o → at' ≤ o.length → out.length = at' → g.length + 1 ≤ at' + f → Made g cl o out →
 ∃ o' : List Int,OrdI cl g.length o' ∧ o'.length = (lstF g cl f at' o out).length ∧ (∀ j,j < o.length → o'[j]? = o[j]?) ∧ Made g cl o' (lstF g cl f at' o out)
 | 0,at',o,out,ho,ha,hl,hf,hm=>by
  have:=ho.len
  omega
 | f + 1, at',o,out,ho,ha,hl,hf,hm=>by
  unfold lstF
  cases hx : o[at']? with
  | none =>
   have : o.length ≤ at':=by simpa using hx
   exact ⟨o,ho,by simp only;omega,fun _ _=>rfl,hm⟩
  | some v =>
   have hlt:=(List.getElem?_eq_some_iff.1 hx).1
   have rv:=ho.r v (List.mem_of_getElem? hx)
   obtain ⟨m,hmm⟩ : ∃ m,g[v.toNat]? = some m:=⟨_,List.getElem?_eq_getElem (by omega)⟩
   have am : gAt g v = m:=by unfold gAt;simp [List.getD,hmm]
   have gm:=hg m (List.mem_of_getElem? hmm)
   have sub:=rowO_sub cl m.to o
   simp only [hmm]
   obtain ⟨o',a1,a2,a3,a4⟩:=lstF_made hg f (at' + 1) (rowO cl m.to o).2 (out ++ [⟨m.k,m.so,m.ls,(rowO cl m.to o).1⟩]) (ho.row gm.ok.r) (by omega) (by simp [hl]) (by omega) (by
    intro p x w hp hw
    by_cases hpl : p < out.length
    · rw [List.getElem?_append_left hpl] at hp
      rw [sub.2 p (by omega)] at hw
      obtain ⟨b1,b2,b3,b4,b5⟩:=hm p x w hp hw
      refine ⟨b1,b2,b3,b4,fun q t u ht hu=>?_⟩
      obtain ⟨c1,z,c2,c3⟩:=b5 q t u ht hu
      exact ⟨c1,z,by rw [sub.2 _ (List.getElem?_eq_some_iff.1 c2).1];exact c2,c3⟩
    · rw [List.getElem?_append_right (by omega)] at hp
      by_cases hpe : p = out.length
      · rw [show p - out.length = 0 by omega] at hp
        simp at hp
        subst hp
        rw [sub.2 p (by omega),hpe,hl,hx] at hw
        obtain rfl:=Option.some.inj hw
        rw [am]
        refine ⟨rfl,rfl,rfl,rowO_len cl m.to o,fun q t u ht hu=>?_⟩
        exact rowO_made cl m.to o q t u ht hu
      · rw [List.getElem?_eq_none (by simp;omega)] at hp;cases hp)
   exact ⟨o',a1,a2,fun j hj=>by rw [a3 j (by omega),sub.2 j hj],a4⟩
theorem made_obs {g : List Nd} {cl : List Int} (hc : GC g cl) {o : List Int} {L : List Nd} (ho : OrdI cl g.length o) (hl : o.length = L.length) (hm : Made g cl o L) : ∀ (n : Nat) (p : Nat) (v : Int),o[p]? = some v → obs L n p = obs g n v
 | 0,p,v,_=>rfl
 | n + 1, p,v,hv=>by
  have hlt:=(List.getElem?_eq_some_iff.1 hv).1
  obtain ⟨x,hx⟩ : ∃ x,L[p]? = some x:=⟨_,List.getElem?_eq_getElem (by omega)⟩
  obtain ⟨e1,e2,e3,e4,e5⟩:=hm p x v hx hv
  rw [obs,obs,gAt_nat hx,e1,e2,e3]
  congr 1
  apply List.ext_getElem?
  intro q
  rw [List.getElem?_map,List.getElem?_map]
  cases ht : x.to[q]? with
  | none =>
   have : (gAt g v).to[q]? = none:=by simp at ht ⊢;omega
   rw [this];rfl
  | some t =>
   have hq:=(List.getElem?_eq_some_iff.1 ht).1
   obtain ⟨u,hu⟩ : ∃ u,(gAt g v).to[q]? = some u:=⟨_,List.getElem?_eq_getElem (by omega)⟩
   obtain ⟨t0,w,hw,hcl⟩:=e5 q t u ht hu
   rw [hu]
   simp only [Option.map_some,Option.some.injEq]
   have ih:=made_obs hc ho hl hm n t.toNat w hw
   rw [show ((t.toNat : Nat) : Int) = t by omega] at ih
   rw [ih]
   have rw1:=ho.r w (List.mem_of_getElem? hw)
   have rv:=ho.r v (List.mem_of_getElem? hv)
   have ru : 0 ≤ u ∧ u < (g.length : Int):=by
    have hgm : gAt g v ∈ g:=by
     unfold gAt
     rw [List.getD_eq_getElem?_getD,List.getElem?_eq_getElem (by omega),Option.getD_some]
     exact List.getElem_mem _
    exact (hc.ok _ hgm).ok.r u (List.mem_of_getElem? hu)
   exact (hc.cls rw1 ru).1 hcl n
theorem least_obs {g : List Nd} (hg : ∀ n ∈ g,NdG g.length n) (h0 : 0 < g.length) (n : Nat) : obs (leastP g) n 0 = obs g n 0:=by
 obtain ⟨o,a1,a2,a3,a4⟩:=lstF_made (cl:=partedP g) hg (g.length + 1) 0 [0] [] (ord_one h0 _) (by simp) rfl (by omega) (by intro p x v hp;simp at hp)
 have:=made_obs (gc_parted hg h0) a1 a2 a4 n 0 0 (by rw [a3 0 (by simp)];rfl)
 exact this
end Go.Proofs.YtgecnlcbdbaneaaDoor
