/- graph.Back in plain words: the type that it answers does what the graph does. -/
import Derived.Test.YtgecnlcbdbaneaaDoorHQ6
import Derived.Test.YtgecnlcbdbaneaaDoorKD1
set_option linter.unusedVariables false
set_option linter.unusedSimpArgs false
namespace Go.Proofs.YtgecnlcbdbaneaaDoor
open Go.RowKit Go.Sw
open _root_.List renaming replicate → za, getD → zb, map_cons → ze

def qw1 (k : Int) : ByteArray:=if k < 26 then ⟨#[(97 + k).toNat.toUInt8]⟩ else ⟨#[(97 + k / 26 - 1).toNat.toUInt8,(97 + k % 26).toNat.toUInt8]⟩
structure qy9 where
 on : List Int
 left : Int
def qi2 (b : Int → qy9 → (Tp × Bool) × qy9) : List Int → qy9 → Option (List Tp) × qy9
 | [],st=>(some [],st)
 | n :: l,st =>
  if (b n st).1.2 = true then
   (match (qi2 b l (b n st).2).1 with | none=>none | some xs=>some ((b n st).1.1 :: xs),(qi2 b l (b n st).2).2)
  else (none,(b n st).2)
def tp0 : Tp:=.mk 0 0 ⟨#[]⟩ [] []
def vv7 (g : List Nd) (k : Int) (r : Option (List Tp) × qy9) : (Tp × Bool) × qy9 :=
 match r.1 with
 | none=>((tp0,false),r.2)
 | some kids =>
  if r.2.on.getD k.toNat 0 = 2 then ((.mk 8 0 (qw1 k) [] [.mk (gAt g k).k (gAt g k).so noB (gAt g k).ls kids],decide (0 ≤ r.2.left - 1)),⟨r.2.on.set k.toNat 0,r.2.left - 1⟩)
  else ((.mk (gAt g k).k (gAt g k).so noB (gAt g k).ls kids,decide (0 ≤ r.2.left)),⟨r.2.on.set k.toNat 0,r.2.left⟩)
def qn5 (g : List Nd) : Nat → Int → qy9 → (Tp × Bool) × qy9
 | 0,_,st=>((tp0,false),⟨st.on,st.left - 1⟩)
 | f + 1,k,st =>
  if st.left - 1 < 0 then ((tp0,false),⟨st.on,st.left - 1⟩)
  else if 0 < st.on.getD k.toNat 0 then ((.mk 9 0 (qw1 k) [] [],true),⟨st.on.set k.toNat 2,st.left - 1⟩)
  else vv7 g k (qi2 (qn5 g f) (gAt g k).to ⟨st.on.set k.toNat 1,st.left - 1⟩)
theorem yq9 : ∀ k : Fin 200,vb8 (qw1 (k.val : Int)) = true:=by decide +kernel
def nameD (b : ByteArray) : Nat:=match b.data.toList with
 | [x]=>x.toNat - 97
 | [x,y]=>(x.toNat - 96) * 26 + (y.toNat - 97)
 | _=>0
theorem xk9 : ∀ k : Fin 200,nameD (qw1 (k.val : Int)) = k.val:=by decide +kernel
theorem ys3 {i j : Nat} (hi : i < 200) (hj : j < 200) (h : qw1 (i : Int) = qw1 (j : Int)) : i = j:=by
 have a:=xk9 ⟨i,hi⟩
 have b:=xk9 ⟨j,hj⟩
 simp only at a b
 rw [← a, ← b,h]
structure Mk (on on' : List Int) : Prop where
 ln : on'.length = on.length
 z : ∀ j : Nat,on.getD j 0 = 0 → on'.getD j 0 = 0
 o : ∀ j : Nat,on.getD j 0 = 1 → on'.getD j 0 = 1 ∨ on'.getD j 0 = 2
 t : ∀ j : Nat,on.getD j 0 = 2 → on'.getD j 0 = 2
structure Ms (n : Nat) (on : List Int) : Prop where
 ln : on.length = n
 m : ∀ j : Nat,on.getD j 0 = 0 ∨ on.getD j 0 = 1 ∨ on.getD j 0 = 2
theorem Mk.refl (on : List Int) : Mk on on:=⟨rfl,fun _ h=>h,fun _ h=>.inl h,fun _ h=>h⟩
theorem Mk.trans {a b c : List Int} (h : Mk a b) (k : Mk b c) : Mk a c :=
 ⟨k.ln.trans h.ln,fun j hj=>k.z j (h.z j hj),fun j hj=>by
  rcases h.o j hj with h | h
  · exact k.o j h
  · exact .inr (k.t j h),fun j hj=>k.t j (h.t j hj)⟩
theorem Mk.ms {n : Nat} {a b : List Int} (h : Mk a b) (ha : Ms n a) : Ms n b:=⟨h.ln.trans ha.ln,fun j=>by
 rcases ha.m j with e | e | e
 · exact .inl (h.z j e)
 · rcases h.o j e with e | e
   · exact .inr (.inl e)
   · exact .inr (.inr e)
 · exact .inr (.inr (h.t j e))⟩
theorem qr4 {l : List Int} {i j : Nat} {v : Int} (hi : i < l.length) : (l.set i v).getD j 0 = if j = i then v else l.getD j 0:=by
 by_cases h : j = i
 · subst h;simp [zb,hi]
 · rw [if_neg h];simp [zb,List.getElem?_set_ne (Ne.symm h)]
structure BkOK (g : List Nd) (k : Int) (x : Tp) (st st' : qy9) : Prop where
 mr : Mk st.on st'.on
 ok : OkT x
 cn : cnT x
 cl : ∀ b,(∀ j : Nat,j < g.length → 0 < st.on.getD j 0 → st'.on.getD j 0 = 2 → qw1 j ∈ b) → clT x b
 sz : st'.left = st.left - x.size
 dn : ∀ ρ : Env,(∀ j : Nat,j < g.length → 0 < st.on.getD j 0 → st'.on.getD j 0 = 2 → ρ (qw1 j) = fun n=>obs g n j) → den x ρ = fun n=>obs g n k
structure BksOK (g : List Nd) (l : List Int) (xs : List Tp) (st st' : qy9) : Prop where
 mr : Mk st.on st'.on
 ln : xs.length = l.length
 ok : ∀ x ∈ xs,OkT x
 cn : xw9 xs
 cl : ∀ b,(∀ j : Nat,j < g.length → 0 < st.on.getD j 0 → st'.on.getD j 0 = 2 → qw1 j ∈ b) → xq8 xs b
 sz : st'.left = st.left - Tp.sizes xs
 dn : ∀ ρ : Env,(∀ j : Nat,j < g.length → 0 < st.on.getD j 0 → st'.on.getD j 0 = 2 → ρ (qw1 j) = fun n=>obs g n j) → ∀ n,(xs.map fun x=>den x ρ n) = l.map fun k=>obs g n k
def BkAll (g : List Nd) (b : Int → qy9 → (Tp × Bool) × qy9) : Prop := ∀ (k : Int) (st : qy9),0 ≤ k ∧ k < (g.length : Int) → Ms g.length st.on → (b k st).1.2 = true → BkOK g k (b k st).1.1 st (b k st).2
theorem Mk.pos {a b : List Int} {n : Nat} (h : Mk a b) (ha : Ms n a) {j : Nat} (hj : 0 < a.getD j 0) : 0 < b.getD j 0:=by
 rcases ha.m j with e | e | e
 · omega
 · rcases h.o j e with e | e <;> omega
 · have:=h.t j e;omega
theorem xm8 {g : List Nd} {b : Int → qy9 → (Tp × Bool) × qy9} (hb : BkAll g b) : ∀ (l : List Int) (st : qy9),(∀ k ∈ l,0 ≤ k ∧ k < (g.length : Int)) → Ms g.length st.on →
 ∀ xs,(qi2 b l st).1 = some xs → BksOK g l xs st (qi2 b l st).2
 | [],st,hl,hm,xs,h=>by
  simp only [qi2,Option.some.injEq] at h
  subst h
  exact ⟨Mk.refl _,rfl,(fun x h=>absurd h (by simp)),trivial,(fun _ _=>trivial),(by simp [qi2,Tp.sizes]),(fun _ _ _=>rfl)⟩
 | k :: l, st,hl,hm,xs,h=>by
  unfold qi2 at h ⊢
  by_cases hc : (b k st).1.2 = true
  · rw [if_pos hc] at h ⊢
    have h1:=hb k st (hl k (by simp)) hm hc
    have hm2:=h1.mr.ms hm
    cases hr : (qi2 b l (b k st).2).1 with
    | none=>rw [hr] at h;simp at h
    | some ys =>
     have h2:=xm8 hb l (b k st).2 (fun a ha=>hl a (by simp [ha])) hm2 ys hr
     rw [hr] at h
     simp only [Option.some.injEq] at h
     subst h
     have hp : ∀ j : Nat,0 < st.on.getD j 0 → 0 < (b k st).2.on.getD j 0:=fun j hj=>h1.mr.pos hm hj
     have hq : ∀ j : Nat,(b k st).2.on.getD j 0 = 2 → (qi2 b l (b k st).2).2.on.getD j 0 = 2:=fun j hj=>h2.mr.t j hj
     have hz : ∀ j : Nat,0 < (b k st).2.on.getD j 0 → 0 < st.on.getD j 0:=fun j hj=>by
      rcases hm.m j with e | e | e
      · have:=h1.mr.z j e;omega
      · omega
      · omega
     refine ⟨h1.mr.trans h2.mr,by simp [h2.ln],fun x hx=>?_,⟨h1.cn,h2.cn⟩,fun c hcc=>⟨h1.cl c fun j a1 a2 a3=>hcc j a1 a2 (hq j a3),h2.cl c fun j a1 a2 a3=>hcc j a1 (hz j a2) a3⟩,?_,fun ρ hρ n=>?_⟩
     · rcases List.mem_cons.1 hx with rfl | hx
       · exact h1.ok
       · exact h2.ok x hx
     · simp only [Tp.sizes]
       have a1:=h1.sz
       have a2:=h2.sz
       omega
     · have a1:=h1.dn ρ fun j a1 a2 a3=>hρ j a1 a2 (hq j a3)
       have a2:=h2.dn ρ (fun j a1 a2 a3=>hρ j a1 (hz j a2) a3) n
       rw [ze,ze,a2,congrFun a1 n]
  · rw [if_neg hc] at h;simp at h
theorem node_ok {g : List Nd} (hg : ∀ n ∈ g,NdG g.length n) (hs : ShG g) {k : Int} (hk : 0 ≤ k ∧ k < (g.length : Int)) {xs : List Tp} (hl : xs.length = (gAt g k).to.length) (ho : ∀ x ∈ xs,OkT x) (hc : xw9 xs) :
 OkT (.mk (gAt g k).k (gAt g k).so noB (gAt g k).ls xs) ∧ cnT (.mk (gAt g k).k (gAt g k).so noB (gAt g k).ls xs) ∧ (gAt g k).k ≠ 9 ∧ (gAt g k).k ≠ 8:=by
 have hm:=qd0 hk.1 hk.2
 have sh:=hs _ hm
 rw [← hl] at sh
 have h9 : (gAt g k).k ≠ 9 ∧ (gAt g k).k ≠ 8:=by
  rcases sh with h | h | h | h <;> omega
 exact ⟨xo9 (qp3 sh) ho,⟨fun h=>absurd h h9.2,hc⟩,h9⟩
theorem xh0 {g : List Nd} (hg : ∀ n ∈ g,NdG g.length n) (hs : ShG g) (h200 : g.length ≤ 200) : ∀ f,BkAll g (qn5 g f)
 | 0=>fun k st _ _ h=>by simp [qn5] at h
 | f + 1 => fun k st hk hm h=>by
  have ih:=xh0 hg hs h200 f
  have hkn : k.toNat < g.length:=by omega
  have hko : k.toNat < st.on.length:=by rw [hm.ln];exact hkn
  have hkk : ((k.toNat : Nat) : Int) = k:=by omega
  have hnm : vb8 (qw1 k) = true:=by
   have:=yq9 ⟨k.toNat,by omega⟩
   simp only at this
   rwa [hkk] at this
  unfold qn5 at h ⊢
  by_cases c1 : st.left - 1 < 0
  · rw [if_pos c1] at h;simp at h
  rw [if_neg c1] at h ⊢
  by_cases c2 : 0 < st.on.getD k.toNat 0
  · rw [if_pos c2]
    have hset : ∀ j : Nat,(st.on.set k.toNat 2).getD j 0 = if j = k.toNat then 2 else st.on.getD j 0:=fun j=>qr4 hko
    refine ⟨⟨by simp,fun j hj=>?_,fun j hj=>?_,fun j hj=>?_⟩,.var _ hnm,⟨fun h=>by omega,trivial⟩,fun b hb=>⟨fun _=>?_,trivial⟩,by simp [Tp.size,Tp.sizes],fun ρ hρ => ?_⟩
    · simp only [hset];split
      · rename_i e;subst e;omega
      · exact hj
    · simp only [hset];split
      · exact .inr rfl
      · exact .inl hj
    · simp only [hset];split
      · rfl
      · exact hj
    · have:=hb k.toNat hkn c2 (by show (st.on.set k.toNat 2).getD k.toNat 0 = 2;rw [hset,if_pos rfl])
      rw [hkk] at this
      exact ql5.2 this
    · have:=hρ k.toNat hkn c2 (by show (st.on.set k.toNat 2).getD k.toNat 0 = 2;rw [hset,if_pos rfl])
      rw [hkk] at this
      rw [ve1,this]
  · rw [if_neg c2] at h ⊢
    have h0 : st.on.getD k.toNat 0 = 0:=by
     rcases hm.m k.toNat with e | e | e <;> omega
    have hset : ∀ j : Nat,(st.on.set k.toNat 1).getD j 0 = if j = k.toNat then 1 else st.on.getD j 0:=fun j=>qr4 hko
    have hm1 : Ms g.length (st.on.set k.toNat 1):=⟨by simp [hm.ln],fun j=>by
     rw [hset];split
     · exact .inr (.inl rfl)
     · exact hm.m j⟩
    have hr : ∀ t ∈ (gAt g k).to,0 ≤ t ∧ t < (g.length : Int):=(hg _ (qd0 hk.1 hk.2)).ok.r
    have hbs:=xm8 ih (gAt g k).to ⟨st.on.set k.toNat 1,st.left - 1⟩ hr hm1
    generalize qi2 (qn5 g f) (gAt g k).to ⟨st.on.set k.toNat 1,st.left - 1⟩ = r at h hbs ⊢
    obtain ⟨r1,on1,left1⟩:=r
    cases r1 with
    | none=>simp [vv7] at h
    | some xs =>
     obtain ⟨b1,b2,b3,b4,b5,b6,b7⟩:=hbs xs rfl
     simp only at b1 b5 b6 b7
     obtain ⟨n1,n2,n9,n8⟩:=node_ok hg hs hk b2 b3 b4
     have hl1 : k.toNat < on1.length:=by rw [b1.ln];simpa using hko
     have hset2 : ∀ j : Nat,(on1.set k.toNat 0).getD j 0 = if j = k.toNat then 0 else on1.getD j 0:=fun j=>qr4 hl1
     have hmk : Mk st.on (on1.set k.toNat 0):=⟨by simp [b1.ln],fun j hj=>by
      rw [hset2];split
      · rfl
      · rename_i e;exact b1.z j (by rw [hset,if_neg e];exact hj),fun j hj=>by
      have e : j ≠ k.toNat:=fun e=>by subst e;omega
      rw [hset2,if_neg e]
      exact b1.o j (by rw [hset,if_neg e];exact hj),fun j hj=>by
      have e : j ≠ k.toNat:=fun e=>by subst e;omega
      rw [hset2,if_neg e]
      exact b1.t j (by rw [hset,if_neg e];exact hj)⟩
     -- a place that was marked is another one
     have hne : ∀ j : Nat,0 < st.on.getD j 0 → j ≠ k.toNat:=fun j hj e=>by subst e;omega
     have hden : ∀ ρ : Env,(∀ j : Nat,j < g.length → 0 < (st.on.set k.toNat 1).getD j 0 → on1.getD j 0 = 2 → ρ (qw1 j) = fun n=>obs g n j) → den (.mk (gAt g k).k (gAt g k).so noB (gAt g k).ls xs) ρ = fun n=>obs g n k:=fun ρ hρ => by
      funext n
      cases n with
      | zero=>rw [(qg8 n9 n8 ρ 0).2];rfl
      | succ n=>rw [(qg8 n9 n8 ρ n).1,b7 ρ hρ n];rfl
     unfold vv7 at h ⊢
     simp only at h ⊢
     by_cases c3 : on1.getD k.toNat 0 = 2
     · rw [if_pos c3]
       refine ⟨hmk,.bind _ _ hnm n1,⟨fun _=>?_,n2,trivial⟩,fun b hb=>⟨fun h=>by omega,?_,trivial⟩,?_,fun ρ hρ => ?_⟩
       · simp only [xc3,qf9,if_neg n8];exact n9
       · rw [if_pos rfl]
         refine ⟨fun h=>absurd h n9,?_⟩
         rw [if_neg n8]
         refine b5 _ fun j a1 a2 a3=>?_
         by_cases e : j = k.toNat
         · subst e;rw [hkk];simp
         · refine List.mem_append_left _ (hb j a1 ?_ ?_)
           · rw [hset,if_neg e] at a2;exact a2
           · simp only;rw [hset2,if_neg e];exact a3
       · simp only [Tp.size,Tp.sizes]
         omega
       · refine (xs0 n1 n2 (by simp only [qf9,if_neg n8];exact n9) 0 [] ρ (X:=fun n=>obs g n k) ?_).symm
         refine (hden _ fun j a1 a2 a3=>?_).symm
         unfold xy3
         by_cases e : j = k.toNat
         · subst e
           rw [hkk,if_pos rfl]
         · rw [if_neg (fun hn=>e (ys3 (by omega) (by omega) (by rw [hn,hkk])))]
           refine hρ j a1 ?_ ?_
           · rw [hset,if_neg e] at a2;exact a2
           · simp only;rw [hset2,if_neg e];exact a3
     · rw [if_neg c3]
       have hk2 : ∀ j : Nat,on1.getD j 0 = 2 → j ≠ k.toNat:=fun j hj e=>by subst e;exact c3 hj
       refine ⟨hmk,n1,n2,fun b hb=>⟨fun h=>absurd h n9,?_⟩,?_,fun ρ hρ => hden ρ fun j a1 a2 a3=>?_⟩
       · rw [if_neg n8]
         refine b5 _ fun j a1 a2 a3=>hb j a1 ?_ ?_
         · rw [hset,if_neg (hk2 j a3)] at a2;exact a2
         · simp only;rw [hset2,if_neg (hk2 j a3)];exact a3
       · simp only [Tp.size]
         omega
       · refine hρ j a1 ?_ ?_
         · rw [hset,if_neg (hk2 j a3)] at a2;exact a2
         · simp only;rw [hset2,if_neg (hk2 j a3)];exact a3
theorem xa5 {g : List Nd} : ∀ (f : Nat) (k : Int) (st : qy9),(qn5 g f k st).1.2 = true → 0 ≤ (qn5 g f k st).2.left:=fun f k st h=>by
 cases f with
 | zero=>simp [qn5] at h
 | succ f =>
  unfold qn5 at h ⊢
  by_cases c1 : st.left - 1 < 0
  · rw [if_pos c1] at h;simp at h
  rw [if_neg c1] at h ⊢
  by_cases c2 : 0 < st.on.getD k.toNat 0
  · rw [if_pos c2];simp only;omega
  rw [if_neg c2] at h ⊢
  generalize qi2 (qn5 g f) (gAt g k).to ⟨st.on.set k.toNat 1,st.left - 1⟩ = r at h ⊢
  obtain ⟨r1,on1,left1⟩:=r
  cases r1 with
  | none=>simp [vv7] at h
  | some xs =>
   unfold vv7 at h ⊢
   simp only at h ⊢
   by_cases c3 : on1.getD k.toNat 0 = 2
   · rw [if_pos c3] at h ⊢;simpa using h
   · rw [if_neg c3] at h ⊢;simpa using h
def vp1 (g : List Nd) : Tp × Bool:=(qn5 g 61 0 ⟨za g.length 0,60⟩).1
theorem ye2 {g : List Nd} (h0 : 0 < g.length) (hg : ∀ n ∈ g,NdG g.length n) (hs : ShG g) (h200 : g.length ≤ 200) (h : (vp1 g).2 = true) : qd9 (vp1 g).1 = 0 ∧ ∀ n,trT (vp1 g).1 n = obs g n 0:=by
 have hz : ∀ j : Nat,(za g.length (0 : Int)).getD j 0 = 0:=fun j=>by
  by_cases hj : j < g.length <;> simp [zb,List.getElem?_replicate,hj]
 obtain ⟨b1,b2,b3,b4,b5,b6⟩:=xh0 hg hs h200 61 0 ⟨za g.length 0,60⟩ ⟨by omega,by omega⟩ ⟨by simp,fun j=>.inl (hz j)⟩ h
 have hl:=xa5 61 0 ⟨za g.length 0,60⟩ h
 have hc:=(yp6 b2 (b4 [] fun j _ h=>by rw [hz] at h;omega) b3).2 (by simp only at b5;omega)
 refine ⟨hc,fun n=>?_⟩
 exact (congrFun (trT_den hc eps) n).trans (congrFun (b6 eps fun j _ h=>by rw [hz] at h;omega) n)
end Go.Proofs.YtgecnlcbdbaneaaDoor
/- graph.name; a symbolic walk. -/
-- TYPESC
namespace Go.Sw
open Go.RowKit
section
variable {P : Program} {N : Nat} {Γ : Gl} {C : Cx P N Γ} {K : Exit → Env → St → Prop} {e : Env} {s : St}
theorem xd4 {ops rest : List Oper} {dst : Option Tmp} {src dt ty : TypeId} {x : Operand} {pos : String} {af : Array Edge} {k k' : IntKind} {n : Int} (hs : P.underlying src = some (.int k')) (hd : P.underlying dt = some .string)
 (hB : qg5 N (⟨dst,.convert src dt x,ty,pos,af,none⟩ :: rest) = true) (hx : opn (val e x) = .d (.v (.int k n))) (hk : ok1 true (val e x))
 (h : qo0 C ops rest (qk9 dst (.d (.v (.string (Utf8.encode n)))) e) s K) : Stop C ops (⟨dst,.convert src dt x,ty,pos,af,none⟩ :: rest) e s K:=by
 refine qh3 hB ?_
 unfold qo0
 have hst : qb8 P true ⟨dst,.convert src dt x,ty,pos,af,none⟩ e s = some (ok1 true (val e x),.d (.v (.string (Utf8.encode n))),e,s):=by
  show (cnv P src dt (opn (val e x))).map _ = _
  rw [hx,cnv.eq_3 P src dt k n k' hs hd]
  rfl
 simp only [hst]
 exact ⟨hk,h⟩
theorem xv7 (m : Nat) {ops rest : List Oper} {dst : Option Tmp} {src dt ty : TypeId} {x : Operand} {pos : String} {af : Array Edge} {k k' : IntKind} {n : Int} (hs : P.underlying src = some (.int k')) (hd : P.underlying dt = some .string)
 (hB : qg5 N (⟨dst,.convert src dt x,ty,pos,af,none⟩ :: rest) = true) (hx : opn (val e x) = .d (.v (.int k n))) (hk : ok1 true (val e x))
 (h : xw6 C ops m rest (qk9 dst (.d (.v (.string (Utf8.encode n)))) e) s K) : Stop C ops (⟨dst,.convert src dt x,ty,pos,af,none⟩ :: rest) e s K:=by
 refine qr0 (m + 1) hB ?_
 unfold xw6
 have hst : qb8 P true ⟨dst,.convert src dt x,ty,pos,af,none⟩ e s = some (ok1 true (val e x),.d (.v (.string (Utf8.encode n))),e,s):=by
  show (cnv P src dt (opn (val e x))).map _ = _
  rw [hx,cnv.eq_3 P src dt k n k' hs hd]
  rfl
 simp only [hst]
 exact ⟨hk,h⟩
end
end Go.Sw
namespace Go.Proofs.YtgecnlcbdbaneaaDoor
open Go.RowKit Go.Sw
open Go.Sw renaming ql8 → zw0, qo9 → zw6, qg2 → zw17

theorem yu4 : ∀ k : Fin 200,k.val < 26 → Utf8.encode (IntKind.i32.wrap (IntKind.i64.wrap (97 + (k.val : Int)))) = qw1 k.val:=by decide +kernel
theorem yu2 : ∀ k : Fin 200, ¬ k.val < 26 → Utf8.encode (IntKind.i32.wrap (IntKind.i64.wrap (IntKind.i64.wrap (97 + IntKind.i64.wrap ((k.val : Int).tdiv 26)) - 1))) ++ Utf8.encode (IntKind.i32.wrap (IntKind.i64.wrap (97 + (k.val : Int).tmod 26))) = qw1 k.val:=by decide +kernel
theorem yu3 : ∀ k : Fin 200, ¬ k.val < 26 → (Utf8.encode (IntKind.i32.wrap (IntKind.i64.wrap (IntKind.i64.wrap (97 + IntKind.i64.wrap ((k.val : Int).tdiv 26)) - 1)))).size + (Utf8.encode (IntKind.i32.wrap (IntKind.i64.wrap (97 + (k.val : Int).tmod 26)))).size ≤ maxLen:=by decide +kernel
set_option maxHeartbeats 4000000 in
set_option maxRecDepth 100000 in
theorem name_fn (Γ : Gl) (k : Int) (h0 : 0 ≤ k) (h1 : k < 200) : DFn Tryd.prog Γ 72 [iD k] (sD (qw1 k)):=by
 have ek : ((k.toNat : Nat) : Int) = k:=by omega
 have e1:=yu4 ⟨k.toNat,by omega⟩
 have e2:=yu2 ⟨k.toNat,by omega⟩
 have e3:=yu3 ⟨k.toNat,by omega⟩
 simp only [ek] at e1 e2 e3
 refine qa4 (N:=21) Tryd.func72 rfl (by decide) rfl rfl (by simp) (fun C h0=>?_)
 simp only [qj1]
 by_cases hk : k < 26
 · have e1:=e1 (by omega)
   repeat (with_reducible refine zw0 ?_)
   (with_reducible refine zw17 ?_ (fun K' hK'=>?_)
    · rfl
    simp only [WC,simprocAttr]
    (repeat (constructor;focus (clear hK';intros;simp_all;done))))
   refine hK' _ _ ?_
   clear hK' K'
   refine zw6 ?_
   repeat (with_reducible refine zw0 ?_)
   (with_reducible refine zw17 ?_ (fun K' hK'=>?_)
    · rfl
    simp only [WC,simprocAttr,hk]
    (repeat (constructor;focus (clear hK';intros;simp_all;done))))
   refine hK' _ _ ?_
   clear hK' K'
   refine zw6 ?_
   repeat (with_reducible refine zw0 ?_)
   ((with_reducible refine qn6 ?_ ?_);rfl;refine ⟨_,rfl,fun h=>?_,fun h=>?_⟩ <;> try exact absurd h (by decide))
   repeat (with_reducible refine zw0 ?_)
   (with_reducible refine vk7 (fun K' hK'=>?_))
   refine qr0 3 rfl ?_
   simp only [WC,simprocAttr,xw6]
   (repeat (constructor;focus (clear hK';intros;simp_all;done)))
   refine xd4 un21 un9 rfl rfl trivial ?_
   -- TRACE
   simp only [WC,simprocAttr,e1]
   (try (apply hK';clear hK' K'))
   repeat' (first|(with_reducible apply zz1)|((with_reducible apply zz2);rfl;intro K' hK';simp only [WC,simprocAttr];(repeat (constructor;focus (clear hK';intros;simp_all;done)));(try (apply hK';clear hK' K')))|((with_reducible apply zz3);rfl;all_goals (intro h;try exact absurd h (by decide))))
   simp only [qf7,qd5,qa2,qd6,WC,simprocAttr]
 · have e2:=e2 (by omega)
   have e3:=e3 (by omega)
   repeat (with_reducible refine zw0 ?_)
   (with_reducible refine zw17 ?_ (fun K' hK'=>?_)
    · rfl
    simp only [WC,simprocAttr]
    (repeat (constructor;focus (clear hK';intros;simp_all;done))))
   refine hK' _ _ ?_
   clear hK' K'
   refine zw6 ?_
   repeat (with_reducible refine zw0 ?_)
   (with_reducible refine zw17 ?_ (fun K' hK'=>?_)
    · rfl
    simp only [WC,simprocAttr,hk]
    (repeat (constructor;focus (clear hK';intros;simp_all;done))))
   refine hK' _ _ ?_
   clear hK' K'
   refine zw6 ?_
   repeat (with_reducible refine zw0 ?_)
   ((with_reducible refine qn6 ?_ ?_);rfl;refine ⟨_,rfl,fun h=>?_,fun h=>?_⟩ <;> try exact absurd h (by decide))
   refine qr8 ?_
   refine zw6 ?_
   repeat (with_reducible refine zw0 ?_)
   (with_reducible refine vk7 (fun K' hK'=>?_))
   refine qr0 5 rfl ?_
   simp only [WC,simprocAttr,xw6]
   (repeat (constructor;focus (clear hK';intros;simp_all;done)))
   refine xv7 4 un21 un9 rfl rfl trivial ?_
   simp only [WC,simprocAttr,xw6]
   (repeat (constructor;focus (clear hK';intros;simp_all;done)))
   -- TRACE
   refine xd4 un21 un9 rfl rfl trivial ?_
   simp only [WC,simprocAttr,e3,e2]
   (try (apply hK';clear hK' K'))
   repeat' (first|(with_reducible apply zz1)|((with_reducible apply zz2);rfl;intro K' hK';simp only [WC,simprocAttr];(repeat (constructor;focus (clear hK';intros;simp_all;done)));(try (apply hK';clear hK' K')))|((with_reducible apply zz3);rfl;all_goals (intro h;try exact absurd h (by decide))))
   simp only [qf7,qd5,qa2,qd6,WC,simprocAttr]
theorem yg5 : ∀ l : List Tp,Tp.ds l = l.map Tp.d
 | []=>rfl
 | x :: l=>by simp [Tp.ds,yg5 l]
theorem ds_appT (l : List Tp) (x : Tp) : Tp.ds (l ++ [x]) = Tp.ds l ++ [x.d]:=by simp [yg5]
end Go.Proofs.YtgecnlcbdbaneaaDoor
