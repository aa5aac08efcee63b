/- The least graph does the same, and there is one only. -/
import Derived.Test.YtdcplkefmpjppaaGreatDoorHQ1
import Derived.Test.YtdcplkefmpjppaaGreatDoorHP5
set_option linter.unusedVariables false
set_option linter.unusedSimpArgs false
namespace Go.Proofs.YtdcplkefmpjppaaGreatDoor
open Go.RowKit Go.Sw

structure GC (g : List Nd) (cl : List Int) : Prop where
 ok : ∀ n ∈ g,NdG g.length n
 eq : ∀ i j : Nat,i < g.length → j < g.length → (cl.getD i 0 = cl.getD j 0 ↔ ∀ n,obs g n i = obs g n j)
theorem GC.cls {g : List Nd} {cl : List Int} (h : GC g cl) {a b : Int} (ha : 0 ≤ a ∧ a < (g.length : Int)) (hb : 0 ≤ b ∧ b < (g.length : Int)) : cOf cl a = cOf cl b ↔ ∀ n,obs g n a = obs g n b:=by
 have:=h.eq a.toNat b.toNat (by omega) (by omega)
 rwa [show ((a.toNat : Nat) : Int) = a by omega,show ((b.toNat : Nat) : Int) = b by omega] at this
def Par (g h : List Nd) (o o' : List Int) : Prop:=o.length = o'.length ∧ ∀ (i : Nat) (a b : Int),o[i]? = some a → o'[i]? = some b → ∀ n,obs g n a = obs h n b
def inR (g : List Nd) (o : List Int) : Prop := ∀ v ∈ o,0 ≤ v ∧ v < (g.length : Int)
theorem Par.cons {g h : List Nd} {o o' : List Int} {a b : Int} (hp : Par g h (a :: o) (b :: o')) : (∀ n,obs g n a = obs h n b) ∧ Par g h o o' :=
 ⟨hp.2 0 a b rfl rfl,by have:=hp.1;simpa using this,fun i x y hx hy=>hp.2 (i + 1) x y (by simpa using hx) (by simpa using hy)⟩
theorem Par.snoc {g h : List Nd} {o o' : List Int} {a b : Int} (hp : Par g h o o') (hab : ∀ n,obs g n a = obs h n b) : Par g h (o ++ [a]) (o' ++ [b]):=by
 have hl:=hp.1
 refine ⟨by simp [hl],fun i x y hx hy=>?_⟩
 by_cases hi : i < o.length
 · rw [List.getElem?_append_left hi] at hx
   rw [List.getElem?_append_left (by omega)] at hy
   exact hp.2 i x y hx hy
 · rw [List.getElem?_append_right (by omega)] at hx
   rw [List.getElem?_append_right (by omega)] at hy
   by_cases h0 : i = o.length
   · rw [show i - o.length = 0 by omega] at hx
     rw [show i - o'.length = 0 by omega] at hy
     simp at hx hy
     rw [← hx, ← hy];exact hab
   · rw [List.getElem?_eq_none (by simp;omega)] at hx;cases hx
theorem ixI_par {g h : List Nd} {cl cl' : List Int} (hg : GC g cl) (hh : GC h cl') {a b : Int} (ha : 0 ≤ a ∧ a < (g.length : Int)) (hb : 0 ≤ b ∧ b < (h.length : Int)) (hab : ∀ n,obs g n a = obs h n b) :
 ∀ (o o' : List Int) (i : Nat),inR g o → inR h o' → Par g h o o' → ixI (cOf cl a) (o.map (cOf cl)) i = ixI (cOf cl' b) (o'.map (cOf cl')) i
 | [],[],i,_,_,_=>rfl
 | [],_ :: _,i,_,_,hp=>by have:=hp.1;simp at this
 | _ :: _,[],i,_,_,hp=>by have:=hp.1;simp at this
 | x :: o,y :: o',i,ro,ro',hp=>by
  have hc:=hp.cons
  have rx:=ro x (by simp)
  have ry:=ro' y (by simp)
  have e : (cOf cl a == cOf cl x) = (cOf cl' b == cOf cl' y):=by
   rw [Bool.eq_iff_iff,beq_iff_eq,beq_iff_eq,hg.cls ha rx,hh.cls hb ry]
   constructor
   · intro h n;rw [← hab,h,hc.1]
   · intro h n;rw [hab,h,hc.1]
  simp only [List.map_cons,ixI,e]
  cases cOf cl' b == cOf cl' y with
  | true=>rfl
  | false=>exact ixI_par hg hh ha hb hab o o' (i + 1) (fun v hv=>ro v (by simp [hv])) (fun v hv=>ro' v (by simp [hv])) hc.2
theorem inR.add {g : List Nd} {o : List Int} (ho : inR g o) {a : Int} (ha : 0 ≤ a ∧ a < (g.length : Int)) (cl : List Int) : inR g (addO cl o a):=by
 unfold addO
 split
 · exact ho
 · intro v hv
   rcases List.mem_append.1 hv with hv | hv
   · exact ho v hv
   · rw [List.mem_singleton] at hv;subst hv;exact ha
theorem addO_par {g h : List Nd} {cl cl' : List Int} (hg : GC g cl) (hh : GC h cl') {a b : Int} (ha : 0 ≤ a ∧ a < (g.length : Int)) (hb : 0 ≤ b ∧ b < (h.length : Int)) (hab : ∀ n,obs g n a = obs h n b)
 {o o' : List Int} (ro : inR g o) (ro' : inR h o') (hp : Par g h o o') : Par g h (addO cl o a) (addO cl' o' b):=by
 unfold addO
 rw [ixI_par hg hh ha hb hab o o' 0 ro ro' hp]
 split
 · exact hp
 · exact hp.snoc hab
theorem rowO_par {g h : List Nd} {cl cl' : List Int} (hg : GC g cl) (hh : GC h cl') : ∀ (t t' o o' : List Int),inR g t → inR h t' → Par g h t t' → inR g o → inR h o' → Par g h o o' →
 (rowO cl t o).1 = (rowO cl' t' o').1 ∧ Par g h (rowO cl t o).2 (rowO cl' t' o').2 ∧ inR g (rowO cl t o).2 ∧ inR h (rowO cl' t' o').2
 | [],[],o,o',_,_,_,ro,ro',hp=>⟨rfl,hp,ro,ro'⟩
 | [],_ :: _,o,o',_,_,hp,_,_,_=>by have:=hp.1;simp at this
 | _ :: _,[],o,o',_,_,hp,_,_,_=>by have:=hp.1;simp at this
 | x :: t,y :: t',o,o',rt,rt',hpt,ro,ro',hp=>by
  have hc:=hpt.cons
  have rx:=rt x (by simp)
  have ry:=rt' y (by simp)
  have ha:=addO_par hg hh rx ry hc.1 ro ro' hp
  have r1:=ro.add rx cl
  have r2:=ro'.add ry cl'
  have ih:=rowO_par hg hh t t' _ _ (fun v hv=>rt v (by simp [hv])) (fun v hv=>rt' v (by simp [hv])) hc.2 r1 r2 ha
  simp only [rowO]
  refine ⟨?_,ih.2⟩
  rw [ih.1]
  congr 1
  unfold plI
  rw [ixI_par hg hh rx ry hc.1 _ _ 0 r1 r2 ha]
theorem par_map {g h : List Nd} {t t' : List Int} (e : ∀ n,t.map (obs g n) = t'.map (obs h n)) : Par g h t t':=by
 have hl : t.length = t'.length:=by simpa using congrArg List.length (e 0)
 refine ⟨hl,fun i a b ha hb n=>?_⟩
 have:=congrArg (fun l=>l[i]?) (e n)
 simp only [List.getElem?_map,ha,hb,Option.map_some,Option.some.injEq] at this
 exact this
theorem lstF_par {g h : List Nd} {cl cl' : List Int} (hg : GC g cl) (hh : GC h cl') : ∀ (f f' at' : Nat) (o o' : List Int) (out : List Nd),Par g h o o' → OrdI cl g.length o → OrdI cl' h.length o' → g.length + 1 ≤ at' + f → h.length + 1 ≤ at' + f' →
 lstF g cl f at' o out = lstF h cl' f' at' o' out
 | 0,f',at',o,o',out,hp,ho,ho',hf,hf'=>by
  have h1:=ho.len
  have h2:=hp.1
  have : o'[at']? = none:=List.getElem?_eq_none (by omega)
  cases f' with
  | zero=>rfl
  | succ f'=>simp only [lstF,this]
 | f + 1,0,at',o,o',out,hp,ho,ho',hf,hf'=>by
  have h1:=ho'.len
  have h2:=hp.1
  have : o[at']? = none:=List.getElem?_eq_none (by omega)
  simp only [lstF,this]
 | f + 1,f' + 1,at',o,o',out,hp,ho,ho',hf,hf'=>by
  have hl:=hp.1
  by_cases ha : at' < o.length
  · obtain ⟨a,hx⟩ : ∃ a,o[at']? = some a:=⟨_,List.getElem?_eq_getElem ha⟩
    obtain ⟨b,hy⟩ : ∃ b,o'[at']? = some b:=⟨_,List.getElem?_eq_getElem (by omega)⟩
    have ra:=ho.r a (List.mem_of_getElem? hx)
    have rb:=ho'.r b (List.mem_of_getElem? hy)
    have hab:=hp.2 at' a b hx hy
    obtain ⟨m,hm⟩ : ∃ m,g[a.toNat]? = some m:=⟨_,List.getElem?_eq_getElem (by omega)⟩
    obtain ⟨m',hm'⟩ : ∃ m,h[b.toNat]? = some m:=⟨_,List.getElem?_eq_getElem (by omega)⟩
    have am : gAt g a = m:=by unfold gAt;simp [List.getD,hm]
    have bm : gAt h b = m':=by unfold gAt;simp [List.getD,hm']
    have hs : ∀ n,obs g (n + 1) a = obs h (n + 1) b:=fun n=>hab (n + 1)
    simp only [obs,am,bm,Tr.nd.injEq] at hs
    have gm:=hg.ok m (List.mem_of_getElem? hm)
    have gm':=hh.ok m' (List.mem_of_getElem? hm')
    have ht : Par g h m.to m'.to:=par_map fun n=>(hs n).2.2.2
    have hr:=rowO_par hg hh m.to m'.to o o' gm.ok.r gm'.ok.r ht ho.r ho'.r hp
    simp only [lstF,hx,hy,hm,hm']
    rw [hr.1,(hs 0).1,(hs 0).2.1,(hs 0).2.2.1]
    exact lstF_par hg hh f f' (at' + 1) _ _ _ hr.2.1 (ho.row gm.ok.r) (ho'.row gm'.ok.r) (by omega) (by omega)
  · have h1 : o[at']? = none:=List.getElem?_eq_none (by omega)
    have h2 : o'[at']? = none:=List.getElem?_eq_none (by omega)
    simp only [lstF,h1,h2]
theorem gc_parted {g : List Nd} (hg : ∀ n ∈ g,NdG g.length n) (h0 : 0 < g.length) : GC g (partedP g):=⟨hg,fun _ _ hi hj=>parted_spec hg h0 hi hj⟩
theorem ord_one {g : List Nd} (h0 : 0 < g.length) (cl : List Int) : OrdI cl g.length [0]:=⟨by simp;omega,by simp⟩
theorem least_same {g h : List Nd} (hg : ∀ n ∈ g,NdG g.length n) (h0 : 0 < g.length) (hh : ∀ n ∈ h,NdG h.length n) (h1 : 0 < h.length) (e : ∀ n,obs g n 0 = obs h n 0) : leastP g = leastP h:=by
 unfold leastP
 refine lstF_par (gc_parted hg h0) (gc_parted hh h1) _ _ 0 [0] [0] [] ⟨rfl,fun i a b ha hb=>?_⟩ (ord_one h0 _) (ord_one h1 _) (by omega) (by omega)
 cases i with
 | zero=>simp at ha hb;subst ha;subst hb;exact e
 | succ i=>simp at ha
def Made (g : List Nd) (cl : List Int) (o : List Int) (out : List Nd) : Prop :=
 ∀ (p : Nat) (x : Nd) (v : Int),out[p]? = some x → o[p]? = some v → x.k = (gAt g v).k ∧ x.so = (gAt g v).so ∧ x.ls = (gAt g v).ls ∧ x.to.length = (gAt g v).to.length ∧
   ∀ (q : Nat) (t u : Int),x.to[q]? = some t → (gAt g v).to[q]? = some u → 0 ≤ t ∧ ∃ w,o[t.toNat]? = some w ∧ cOf cl w = cOf cl u
theorem plI_get {cl : List Int} {c : Int} {Cs : List Int} (h : c ∈ Cs) : 0 ≤ plI c Cs ∧ Cs[(plI c Cs).toNat]? = some c:=by
 unfold plI
 cases hi : ixI c Cs 0 with
 | none=>exact absurd h (ixI_none hi)
 | some p =>
  refine ⟨by simp,?_⟩
  have : ∀ {Cs : List Int} {i p : Nat},ixI c Cs i = some p → Cs[p - i]? = some c:=fun {Cs}=>by
   induction Cs with
   | nil=>intro i p h;cases h
   | cons x l ih =>
    intro i p h
    unfold ixI at h
    cases hb : c == x with
    | true =>
     rw [hb] at h
     simp at h
     subst h
     have : c = x:=by simpa using hb
     simp [this]
    | false =>
     rw [hb,cond_false] at h
     have h1:=ixI_lt h
     have:=ih h
     rw [show p - i = (p - (i + 1)) + 1 by omega,List.getElem?_cons_succ]
     exact this
  have:=this hi
  simpa using this
theorem rowO_made (cl : List Int) : ∀ (t o : List Int) (q : Nat) (a u : Int),(rowO cl t o).1[q]? = some a → t[q]? = some u → 0 ≤ a ∧ ∃ w,(rowO cl t o).2[a.toNat]? = some w ∧ cOf cl w = cOf cl u
 | x :: t,o,0,a,u,h,hu=>by
  simp only [rowO,List.getElem?_cons_zero,Option.some.injEq] at h hu
  subst hu
  have hg:=plI_get (cl:=cl) (addO_mem cl o x)
  rw [h] at hg
  rw [List.getElem?_map] at hg
  cases hw : (addO cl o x)[a.toNat]? with
  | none=>rw [hw] at hg;simp at hg
  | some w =>
   rw [hw] at hg
   simp only [Option.map_some,Option.some.injEq] at hg
   refine ⟨hg.1,w,?_,hg.2⟩
   simp only [rowO]
   rw [(rowO_sub cl t (addO cl o x)).2 _ (List.getElem?_eq_some_iff.1 hw).1]
   exact hw
 | x :: t,o,q + 1,a,u,h,hu=>by
  simp only [rowO,List.getElem?_cons_succ] at h hu ⊢
  exact rowO_made cl t _ q a u h hu
theorem lstF_made {g : List Nd} {cl : List Int} (hg : ∀ n ∈ g,NdG g.length n) : ∀ (f at' : Nat) (o : List Int) (out : List Nd),OrdI cl g.length o → at' ≤ o.length → out.length = at' → g.length + 1 ≤ at' + f → Made g cl o out →
 ∃ o' : List Int,OrdI cl g.length o' ∧ o'.length = (lstF g cl f at' o out).length ∧ (∀ j,j < o.length → o'[j]? = o[j]?) ∧ Made g cl o' (lstF g cl f at' o out)
 | 0,at',o,out,ho,ha,hl,hf,hm=>by
  have:=ho.len
  omega
 | f + 1, at',o,out,ho,ha,hl,hf,hm=>by
  unfold lstF
  cases hx : o[at']? with
  | none =>
   have : o.length ≤ at':=by simpa using hx
   exact ⟨o,ho,by simp only;omega,fun _ _=>rfl,hm⟩
  | some v =>
   have hlt:=(List.getElem?_eq_some_iff.1 hx).1
   have rv:=ho.r v (List.mem_of_getElem? hx)
   obtain ⟨m,hmm⟩ : ∃ m,g[v.toNat]? = some m:=⟨_,List.getElem?_eq_getElem (by omega)⟩
   have am : gAt g v = m:=by unfold gAt;simp [List.getD,hmm]
   have gm:=hg m (List.mem_of_getElem? hmm)
   have sub:=rowO_sub cl m.to o
   simp only [hmm]
   obtain ⟨o',a1,a2,a3,a4⟩:=lstF_made hg f (at' + 1) (rowO cl m.to o).2 (out ++ [⟨m.k,m.so,m.ls,(rowO cl m.to o).1⟩]) (ho.row gm.ok.r) (by omega) (by simp [hl]) (by omega) (by
    intro p x w hp hw
    by_cases hpl : p < out.length
    · rw [List.getElem?_append_left hpl] at hp
      rw [sub.2 p (by omega)] at hw
      obtain ⟨b1,b2,b3,b4,b5⟩:=hm p x w hp hw
      refine ⟨b1,b2,b3,b4,fun q t u ht hu=>?_⟩
      obtain ⟨c1,z,c2,c3⟩:=b5 q t u ht hu
      exact ⟨c1,z,by rw [sub.2 _ (List.getElem?_eq_some_iff.1 c2).1];exact c2,c3⟩
    · rw [List.getElem?_append_right (by omega)] at hp
      by_cases hpe : p = out.length
      · rw [show p - out.length = 0 by omega] at hp
        simp at hp
        subst hp
        rw [sub.2 p (by omega),hpe,hl,hx] at hw
        obtain rfl:=Option.some.inj hw
        rw [am]
        refine ⟨rfl,rfl,rfl,rowO_len cl m.to o,fun q t u ht hu=>?_⟩
        exact rowO_made cl m.to o q t u ht hu
      · rw [List.getElem?_eq_none (by simp;omega)] at hp;cases hp)
   exact ⟨o',a1,a2,fun j hj=>by rw [a3 j (by omega),sub.2 j hj],a4⟩
theorem made_obs {g : List Nd} {cl : List Int} (hc : GC g cl) {o : List Int} {L : List Nd} (ho : OrdI cl g.length o) (hl : o.length = L.length) (hm : Made g cl o L) : ∀ (n : Nat) (p : Nat) (v : Int),o[p]? = some v → obs L n p = obs g n v
 | 0,p,v,_=>rfl
 | n + 1, p,v,hv=>by
  have hlt:=(List.getElem?_eq_some_iff.1 hv).1
  obtain ⟨x,hx⟩ : ∃ x,L[p]? = some x:=⟨_,List.getElem?_eq_getElem (by omega)⟩
  obtain ⟨e1,e2,e3,e4,e5⟩:=hm p x v hx hv
  rw [obs,obs,gAt_nat hx,e1,e2,e3]
  congr 1
  apply List.ext_getElem?
  intro q
  rw [List.getElem?_map,List.getElem?_map]
  cases ht : x.to[q]? with
  | none =>
   have : (gAt g v).to[q]? = none:=by simp at ht ⊢;omega
   rw [this];rfl
  | some t =>
   have hq:=(List.getElem?_eq_some_iff.1 ht).1
   obtain ⟨u,hu⟩ : ∃ u,(gAt g v).to[q]? = some u:=⟨_,List.getElem?_eq_getElem (by omega)⟩
   obtain ⟨t0,w,hw,hcl⟩:=e5 q t u ht hu
   rw [hu]
   simp only [Option.map_some,Option.some.injEq]
   have ih:=made_obs hc ho hl hm n t.toNat w hw
   rw [show ((t.toNat : Nat) : Int) = t by omega] at ih
   rw [ih]
   have rw1:=ho.r w (List.mem_of_getElem? hw)
   have rv:=ho.r v (List.mem_of_getElem? hv)
   have ru : 0 ≤ u ∧ u < (g.length : Int):=by
    have hgm : gAt g v ∈ g:=by
     unfold gAt
     rw [List.getD_eq_getElem?_getD,List.getElem?_eq_getElem (by omega),Option.getD_some]
     exact List.getElem_mem _
    exact (hc.ok _ hgm).ok.r u (List.mem_of_getElem? hu)
   exact (hc.cls rw1 ru).1 hcl n
theorem least_obs {g : List Nd} (hg : ∀ n ∈ g,NdG g.length n) (h0 : 0 < g.length) (n : Nat) : obs (leastP g) n 0 = obs g n 0:=by
 obtain ⟨o,a1,a2,a3,a4⟩:=lstF_made (cl:=partedP g) hg (g.length + 1) 0 [0] [] (ord_one h0 _) (by simp) rfl (by omega) (by intro p x v hp;simp at hp)
 have:=made_obs (gc_parted hg h0) a1 a2 a4 n 0 0 (by rw [a3 0 (by simp)];rfl)
 exact this
theorem least_iff {g h : List Nd} (hg : ∀ n ∈ g,NdG g.length n) (h0 : 0 < g.length) (hh : ∀ n ∈ h,NdG h.length n) (h1 : 0 < h.length) : leastP g = leastP h ↔ ∀ n,obs g n 0 = obs h n 0 :=
 ⟨fun e n=>by rw [← least_obs hg h0 n,e,least_obs hh h1 n],least_same hg h0 hh h1⟩
end Go.Proofs.YtdcplkefmpjppaaGreatDoor
/- What is below, of trees; below.both's why tells it. -/
namespace Go.Proofs.YtdcplkefmpjppaaGreatDoor
open Go.RowKit Go.Sw

theorem tl_inj {x y : ByteArray} (h : x.toList = y.toList) : x = y:=by
 rw [Lib.toList_data,Lib.toList_data] at h
 exact bs_inj h
theorem inL_iff {ls : List ByteArray} {x : ByteArray} : inL ls x = true ↔ x ∈ ls:=by
 unfold inL
 rw [List.any_eq_true]
 constructor
 · rintro ⟨b,hb,e⟩
   rw [tl_inj (beq_iff_eq.1 e)];exact hb
 · intro h;exact ⟨x,h,beq_iff_eq.2 rfl⟩
def kid (l : List Tr) (i : Nat) : Tr:=l.getD i .cut
end Go.Proofs.YtdcplkefmpjppaaGreatDoor
