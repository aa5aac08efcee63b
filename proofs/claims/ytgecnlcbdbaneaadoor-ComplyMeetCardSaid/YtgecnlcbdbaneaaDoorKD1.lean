/- below.bounded in plain words: all pairs that may be in it are made. -/
import Derived.Test.YtgecnlcbdbaneaaDoorHQ5
import Derived.Test.YtgecnlcbdbaneaaDoorTA
set_option linter.unusedVariables false
set_option linter.unusedSimpArgs false
namespace Go.Proofs.YtgecnlcbdbaneaaDoor
open Go.RowKit Go.Sw
open _root_.List renaming getElem?_set_ne → za, getElem?_append_left → zb, getElem?_cons_succ → ze, getElem?_set_self → zh

structure Ky where
 i : Int
 k : Int
 u : Int
deriving DecidableEq
def nA (a b : List Nd) (q : Ky) : Nd:=if q.i = -1 then gAt b q.k else gAt a q.i
def nB (b : List Nd) (q : Ky) : Nd:=gAt b q.k
def ql9 (q : Ky) : Bool:=decide (q.i ≠ -1) && decide (q.k ≠ -1)
def ve5 (a b : List Nd) (q : Ky) : Bool:=ql9 q && !(decide ((nA a b q).k = (nB b q).k) && decide ((nA a b q).so = (nB b q).so))
def chB (x : Nd) : Bool:=decide (x.k = 6) || decide (x.k = 7)
def smK (a b : List Nd) (q : Ky) : Bool:=chB (nA a b q) && (ql9 q && (decide ((nA a b q).k = 7) != decide (q.u = 1)))
def lbK (a b : List Nd) (q : Ky) : List ByteArray :=
 if chB (nA a b q) = true then (if ql9 q = true then (if smK a b q = true then vz1 (nA a b q).ls (nB b q).ls else ym6 (nA a b q).ls (nB b q).ls) else (nA a b q).ls) else []
def goK (g : List Nd) (i p : Int) : Int:=if i = -1 ∨ p = -1 then -1 else (gAt g i).to.getD p.toNat 0
def nxK (a b : List Nd) (q : Ky) (p r u : Int) : Ky:=⟨goK a q.i p,goK b q.k r,u⟩
def ixY (g : List Nd) (i : Int) (l : ByteArray) : Int:=if i = -1 then -1 else ixL l (gAt g i).ls
def chK (a b : List Nd) (q : Ky) : List Ky :=
 if (nA a b q).k = 2 ∨ (nA a b q).k = 3 then [nxK a b q 0 0 q.u]
 else if (nA a b q).k = 4 then [nxK a b q 0 0 (1 - q.u),nxK a b q 1 1 q.u]
 else if (nA a b q).k = 5 then [nxK a b q 0 0 q.u,nxK a b q 1 1 q.u]
 else if chB (nA a b q) = true then (lbK a b q).map fun l=>nxK a b q (ixY a q.i l) (ixY b q.k l) q.u
 else []
def flK (a b : List Nd) (q : Ky) : Bool:=chB (nA a b q) && (decide ((lbK a b q).length = 0) || decide (6 < (lbK a b q).length))
structure Bd where
 ks : List Ky
 ns : List Nd
 sm : List Bool
 fl : List Bool
def xl5 (q : Ky) : List Ky → Nat → Option Nat
 | [],_=>none
 | c :: l,n=>if q = c then some n else xl5 q l (n + 1)
def qt1 (f : Ky → Bd → Int × Bd) : List Ky → Bd → List Int × Bd
 | [],s=>([],s)
 | c :: l,s=>((f c s).1 :: (qt1 f l (f c s).2).1,(qt1 f l (f c s).2).2)
def qg6 (s : Bd) (q : Ky) (m e : Bool) : Bd:=⟨s.ks ++ [q],s.ns ++ [n0],s.sm ++ [m],s.fl ++ [e]⟩
def qp9 (a b : List Nd) (q : Ky) (n : Nat) (r : List Int × Bd) : Bd:=⟨r.2.ks,r.2.ns.set n ⟨(nA a b q).k,(nA a b q).so,lbK a b q,r.1⟩,r.2.sm,r.2.fl.set n (flK a b q)⟩
def qy8 (a b : List Nd) : Nat → Ky → Bd → Int × Bd
 | 0,_,s=>(0,s)
 | f + 1,q,s=>match xl5 q s.ks 0 with
  | some n=>((n : Int),s)
  | none=>if ve5 a b q = true then ((s.ks.length : Int),qg6 s q false true)
   else ((s.ks.length : Int),qp9 a b q s.ks.length (qt1 (qy8 a b f) (chK a b q) (qg6 s q (smK a b q) false)))
theorem xp0 {q : Ky} : ∀ {l : List Ky} {n m : Nat},xl5 q l n = some m → n ≤ m ∧ l[m - n]? = some q
 | c :: l,n,m,h=>by
  unfold xl5 at h
  split at h
  · rename_i e
    cases h
    rw [Nat.sub_self,e]
    exact ⟨Nat.le_refl _,rfl⟩
  · have:=xp0 h
    refine ⟨by omega,?_⟩
    rw [show m - n = (m - (n + 1)) + 1 by omega,ze]
    exact this.2
theorem vy2 {q : Ky} : ∀ {l : List Ky} {n : Nat},xl5 q l n = none → q ∉ l
 | [],_,_=>by simp
 | c :: l,n,h=>by
  unfold xl5 at h
  split at h
  · cases h
  · rename_i e
    simp only [List.mem_cons,not_or]
    exact ⟨e,vy2 h⟩
def okK (n m : Nat) (q : Ky) : Prop:=(q.i = -1 ∨ 0 ≤ q.i ∧ q.i < (n : Int)) ∧ (q.k = -1 ∨ 0 ≤ q.k ∧ q.k < (m : Int)) ∧ ¬ (q.i = -1 ∧ q.k = -1) ∧ (q.u = 0 ∨ q.u = 1)
def keyN (m : Nat) (q : Ky) : Nat:=((q.i + 1).toNat * (m + 1) + (q.k + 1).toNat) * 2 + q.u.toNat
theorem keyN_lt {n m : Nat} {q : Ky} (h : okK n m q) : keyN m q < (n + 1) * (m + 1) * 2:=by
 obtain ⟨h1,h2, -,h4⟩:=h
 unfold keyN
 have a1 : (q.i + 1).toNat ≤ n:=by omega
 have a2 : (q.k + 1).toNat ≤ m:=by omega
 have a3 : q.u.toNat ≤ 1:=by omega
 have a4 : (q.i + 1).toNat * (m + 1) ≤ n * (m + 1):=Nat.mul_le_mul_right _ a1
 have a5 : (n + 1) * (m + 1) = n * (m + 1) + (m + 1):=by rw [Nat.add_mul,Nat.one_mul]
 omega
theorem yt6 {n m : Nat} {q r : Ky} (h : okK n m q) (h' : okK n m r) (e : keyN m q = keyN m r) : q = r:=by
 obtain ⟨h1,h2, -,h4⟩:=h
 obtain ⟨g1,g2, -,g4⟩:=h'
 unfold keyN at e
 have a2 : (q.k + 1).toNat ≤ m:=by omega
 have b2 : (r.k + 1).toNat ≤ m:=by omega
 have e1 : (q.i + 1).toNat * (m + 1) + (q.k + 1).toNat = (r.i + 1).toNat * (m + 1) + (r.k + 1).toNat:=by omega
 have e2 : (q.k + 1).toNat = (r.k + 1).toNat:=by
  have:=congrArg (· % (m + 1)) e1
  simp only [Nat.mul_add_mod_self_right] at this
  rw [Nat.mod_eq_of_lt (by omega),Nat.mod_eq_of_lt (by omega)] at this
  exact this
 have e3 : (q.i + 1).toNat = (r.i + 1).toNat:=by
  have : (q.i + 1).toNat * (m + 1) = (r.i + 1).toNat * (m + 1):=by omega
  exact Nat.eq_of_mul_eq_mul_right (by omega) this
 obtain ⟨a,b,c⟩:=q
 obtain ⟨a',b',c'⟩:=r
 simp only at *
 simp only [Ky.mk.injEq]
 omega
theorem vj2 {n m : Nat} {l : List Ky} (hd : l.Nodup) (h : ∀ q ∈ l,okK n m q) : l.length ≤ (n + 1) * (m + 1) * 2:=by
 have hnd : (l.map (keyN m)).Nodup:=by
  rw [List.nodup_iff_pairwise_ne] at hd ⊢
  rw [List.pairwise_map]
  refine hd.imp_of_mem fun {x y} hx hy hne e=>hne (yt6 (h x hx) (h y hy) e)
 have hsub : ∀ x ∈ l.map (keyN m),x ∈ List.range ((n + 1) * (m + 1) * 2):=fun x hx=>by
  obtain ⟨q,hq,rfl⟩:=List.mem_map.1 hx
  exact List.mem_range.2 (keyN_lt (h q hq))
 have:=vl2 _ _ hnd hsub
 simpa using this
structure WF (n m : Nat) (s : Bd) : Prop where
 l1 : s.ns.length = s.ks.length
 l2 : s.sm.length = s.ks.length
 l3 : s.fl.length = s.ks.length
 nd : s.ks.Nodup
 ok : ∀ q ∈ s.ks,okK n m q
structure ExB (s s' : Bd) : Prop where
 ks : ∃ l,s'.ks = s.ks ++ l
 ns : ∀ j,j < s.ks.length → s'.ns[j]? = s.ns[j]?
 sm : ∀ j,j < s.ks.length → s'.sm[j]? = s.sm[j]?
 fl : ∀ j,j < s.ks.length → s'.fl[j]? = s.fl[j]?
theorem ExB.refl (s : Bd) : ExB s s:=⟨⟨[],by simp⟩,fun _ _=>rfl,fun _ _=>rfl,fun _ _=>rfl⟩
theorem ExB.len {s s' : Bd} (h : ExB s s') : s.ks.length ≤ s'.ks.length:=by
 obtain ⟨l,e⟩:=h.ks
 rw [e];simp
theorem ExB.get {s s' : Bd} (h : ExB s s') {j : Nat} (hj : j < s.ks.length) : s'.ks[j]? = s.ks[j]? := by
 obtain ⟨l,e⟩:=h.ks
 rw [e];exact zb hj
theorem ExB.trans {a b c : Bd} (h : ExB a b) (k : ExB b c) : ExB a c:=by
 have hl:=h.len
 refine ⟨?_,fun j hj=>(k.ns j (by omega)).trans (h.ns j hj),fun j hj=>(k.sm j (by omega)).trans (h.sm j hj),fun j hj=>(k.fl j (by omega)).trans (h.fl j hj)⟩
 obtain ⟨l,e⟩:=h.ks
 obtain ⟨l',e'⟩:=k.ks
 exact ⟨l ++ l',by rw [e',e,List.append_assoc]⟩
inductive vr7 {α β : Type} (R : α → β → Prop) : List α → List β → Prop
 | nil : vr7 R [] []
 | cons {a : α} {b : β} {l : List α} {m : List β} (h : R a b) (t : vr7 R l m) : vr7 R (a :: l) (b :: m)
theorem vr7.imp {α β : Type} {R S : α → β → Prop} (h : ∀ a b,R a b → S a b) : ∀ {l : List α} {m : List β},vr7 R l m → vr7 S l m
 | _,_,.nil=>.nil
 | _,_,.cons r t=>.cons (h _ _ r) (vr7.imp h t)
theorem vr7.get {α β : Type} {R : α → β → Prop} : ∀ {l : List α} {m : List β},vr7 R l m → ∀ (i : Nat) (a : α),l[i]? = some a → ∃ b,m[i]? = some b ∧ R a b
 | _,_,.cons r t,0,a,h=>by
  simp only [List.getElem?_cons_zero,Option.some.injEq] at h
  subst h
  exact ⟨_,rfl,r⟩
 | _,_,.cons r t,i + 1,a,h=>by
  simp only [ze] at h ⊢
  exact vr7.get t i a h
 | _,_,.nil,i,a,h=>by simp at h
theorem vr7.len {α β : Type} {R : α → β → Prop} : ∀ {l : List α} {m : List β},vr7 R l m → m.length = l.length
 | _,_,.nil=>rfl
 | _,_,.cons r t=>by simp [vr7.len t]
def IdK (ks : List Ky) (c : Ky) (t : Int) : Prop:=0 ≤ t ∧ ks[t.toNat]? = some c
theorem IdK.ext {s s' : Bd} (h : ExB s s') {c : Ky} {t : Int} (hi : IdK s.ks c t) : IdK s'.ks c t:=⟨hi.1,by rw [h.get (List.getElem?_eq_some_iff.1 hi.2).1];exact hi.2⟩
structure Cmp (a b : List Nd) (s : Bd) (j : Nat) (q : Ky) : Prop where
 k : s.ks[j]? = some q
 sm : s.sm[j]? = some (!ve5 a b q && smK a b q)
 fl : s.fl[j]? = some (ve5 a b q || flK a b q)
 nb : ve5 a b q = true → s.ns[j]? = some n0
 ng : ve5 a b q = false → ∃ to,s.ns[j]? = some ⟨(nA a b q).k,(nA a b q).so,lbK a b q,to⟩ ∧ vr7 (IdK s.ks) (chK a b q) to
theorem Cmp.ext {a b : List Nd} {s s' : Bd} (h : ExB s s') {j : Nat} {q : Ky} (hc : Cmp a b s j q) : Cmp a b s' j q:=by
 have hj : j < s.ks.length:=(List.getElem?_eq_some_iff.1 hc.k).1
 refine ⟨by rw [h.get hj];exact hc.k,by rw [h.sm j hj];exact hc.sm,by rw [h.fl j hj];exact hc.fl,fun e=>by rw [h.ns j hj];exact hc.nb e,fun e=>?_⟩
 obtain ⟨to,h1,h2⟩:=hc.ng e
 exact ⟨to,by rw [h.ns j hj];exact h1,h2.imp fun c t hct=>hct.ext h⟩
structure AddOK (a b : List Nd) (q : Ky) (s : Bd) (r : Int × Bd) : Prop where
 wf : WF a.length b.length r.2
 ex : ExB s r.2
 id : IdK r.2.ks q r.1
 cm : ∀ j,s.ks.length ≤ j → j < r.2.ks.length → ∃ c,Cmp a b r.2 j c
structure AddsOK (a b : List Nd) (cs : List Ky) (s : Bd) (r : List Int × Bd) : Prop where
 wf : WF a.length b.length r.2
 ex : ExB s r.2
 id : vr7 (IdK r.2.ks) cs r.1
 cm : ∀ j,s.ks.length ≤ j → j < r.2.ks.length → ∃ c,Cmp a b r.2 j c
theorem xz1 {a b : List Nd} {f : Ky → Bd → Int × Bd} {L : Nat} (hf : ∀ q s,WF a.length b.length s → okK a.length b.length q → L ≤ s.ks.length → AddOK a b q s (f q s)) : ∀ (cs : List Ky) (s : Bd),WF a.length b.length s → (∀ c ∈ cs,okK a.length b.length c) → L ≤ s.ks.length → AddsOK a b cs s (qt1 f cs s)
 | [],s,hw,_,_=>⟨hw,ExB.refl s,.nil,fun j h1 h2=>by simp only [qt1] at h2;omega⟩
 | c :: cs,s,hw,hc,hL=>by
  have h1:=hf c s hw (hc c (by simp)) hL
  have hl:=h1.ex.len
  have h2:=xz1 hf cs (f c s).2 h1.wf (fun d hd=>hc d (by simp [hd])) (by omega)
  refine ⟨h2.wf,h1.ex.trans h2.ex,.cons (h1.id.ext h2.ex) h2.id,fun j j1 j2=>?_⟩
  by_cases hj : j < (f c s).2.ks.length
  · obtain ⟨d,hd⟩:=h1.cm j j1 hj
    exact ⟨d,hd.ext h2.ex⟩
  · exact h2.cm j (by omega) j2
theorem xj5 {n m : Nat} {s : Bd} {q : Ky} (hw : WF n m s) (hq : okK n m q) (hn : q ∉ s.ks) (x e : Bool) : WF n m (qg6 s q x e) ∧ ExB s (qg6 s q x e):=by
 refine ⟨⟨by simp [qg6,hw.l1],by simp [qg6,hw.l2],by simp [qg6,hw.l3],?_,fun r hr=>?_⟩,⟨⟨[q],rfl⟩,fun j hj=>?_,fun j hj=>?_,fun j hj=>?_⟩⟩
 · simp only [qg6]
   rw [List.nodup_append]
   refine ⟨hw.nd,by simp,fun x hx y hy e=>?_⟩
   rw [show y = q by simpa using hy] at e
   exact hn (e ▸ hx)
 · simp only [qg6] at hr
   rcases List.mem_append.1 hr with hr | hr
   · exact hw.ok r hr
   · rw [show r = q by simpa using hr];exact hq
 · exact zb (by rw [hw.l1];exact hj)
 · exact zb (by rw [hw.l2];exact hj)
 · exact zb (by rw [hw.l3];exact hj)
theorem qk3 {α : Type} (l : List α) (x : α) {n : Nat} (h : l.length = n) : (l ++ [x])[n]? = some x:=by
 rw [List.getElem?_append_right (by omega)]
 simp [h]
theorem vg2 {a b : List Nd} (hch : ∀ q,okK a.length b.length q → ve5 a b q = false → ∀ c ∈ chK a b q,okK a.length b.length c) : ∀ (f : Nat) (q : Ky) (s : Bd),WF a.length b.length s → okK a.length b.length q → (a.length + 1) * (b.length + 1) * 2 + 1 ≤ s.ks.length + f → AddOK a b q s (qy8 a b f q s)
 | 0,q,s,hw,hq,hf=>by
  have:=vj2 hw.nd hw.ok
  omega
 | f + 1, q, s,hw,hq,hf=>by
  unfold qy8
  cases hp : xl5 q s.ks 0 with
  | some n =>
   have:=xp0 hp
   exact ⟨hw,ExB.refl s,⟨by simp only;omega,by simpa using this.2⟩,fun j h1 h2=>by simp only at h2;omega⟩
  | none =>
   have hn:=vy2 hp
   simp only
   by_cases hb : ve5 a b q = true
   · rw [if_pos hb]
     obtain ⟨hw1,he1⟩:=xj5 hw hq hn false true
     refine ⟨hw1,he1,⟨by simp only;omega,?_⟩,fun j h1 h2=>⟨q,?_⟩⟩
     · simp only [qg6,Int.toNat_natCast]
       exact qk3 _ _ rfl
     · have hj : j = s.ks.length:=by simp only [qg6,List.length_append,List.length_cons,List.length_nil] at h2;omega
       subst hj
       exact ⟨qk3 _ _ rfl,by rw [hb];exact qk3 _ _ hw.l2,by rw [hb];exact qk3 _ _ hw.l3,fun _=>qk3 _ _ hw.l1,fun e=>by rw [hb] at e;cases e⟩
   · rw [if_neg hb]
     have hb : ve5 a b q = false:=by simpa using hb
     obtain ⟨hw1,he1⟩:=xj5 hw hq hn (smK a b q) false
     have hl1 : (qg6 s q (smK a b q) false).ks.length = s.ks.length + 1:=by simp [qg6]
     have h2:=xz1 (L:=s.ks.length + 1) (fun q' s' hw' hq' hL=>vg2 hch f q' s' hw' hq' (by omega)) (chK a b q) (qg6 s q (smK a b q) false) hw1 (hch q hq hb) (by omega)
     generalize qt1 (qy8 a b f) (chK a b q) (qg6 s q (smK a b q) false) = r at h2 ⊢
     obtain ⟨to,r⟩:=r
     obtain ⟨w2,e2,i2,c2⟩:=h2
     simp only at w2 e2 i2 c2
     have hlen:=e2.len
     have hks : (qp9 a b q s.ks.length (to,r)).ks = r.ks:=rfl
     have e3 : ExB s (qp9 a b q s.ks.length (to,r)):=by
      have e:=he1.trans e2
      refine ⟨e.ks,fun j hj=>?_,e.sm,fun j hj=>?_⟩
      · simp only [qp9]
        rw [za (by omega)]
        exact e.ns j hj
      · simp only [qp9]
        rw [za (by omega)]
        exact e.fl j hj
     have hkn : r.ks[s.ks.length]? = some q:=by
      rw [e2.get (by omega)]
      exact qk3 _ _ rfl
     refine ⟨⟨by simp [qp9,w2.l1],w2.l2,by simp [qp9,w2.l3],w2.nd,w2.ok⟩,e3,⟨by simp only;omega,by simpa [qp9] using hkn⟩,fun j h1 h2=>?_⟩
     simp only [qp9] at h2
     by_cases hj : j = s.ks.length
     · subst hj
       refine ⟨q,hkn,?_,?_,(fun e=>by rw [hb] at e;cases e),(fun _=>⟨to,?_,i2⟩)⟩
       · simp only [qp9]
         rw [e2.sm _ (by omega),hb]
         exact qk3 _ _ hw.l2
       · simp only [qp9]
         rw [zh (by rw [w2.l3];omega),hb]
         rfl
       · simp only [qp9]
         rw [zh (by rw [w2.l1];omega)]
     · obtain ⟨c,hc⟩:=c2 j (by omega) h2
       refine ⟨c,hc.k,hc.sm,?_,fun e=>?_,fun e=>?_⟩
       · simp only [qp9]
         rw [za (by omega)]
         exact hc.fl
       · simp only [qp9]
         rw [za (by omega)]
         exact hc.nb e
       · obtain ⟨t,t1,t2⟩:=hc.ng e
         refine ⟨t,?_,t2⟩
         simp only [qp9]
         rw [za (by omega)]
         exact t1
end Go.Proofs.YtgecnlcbdbaneaaDoor
/- Facts on the types that the walks meet: sizes, zeros, fields, elements. -/

set_option maxRecDepth 100000
namespace Go.Proofs.YtgecnlcbdbaneaaDoor
open Go.Sw

theorem sz42 : qg9 Tryd.prog 42 = some 1:=by kernel_rfl
theorem ag42 : qi4 Tryd.prog 42 = some false:=by kernel_rfl
-- no zero of 42: tuple tuple 2 agg 5 int i64 0 int
theorem sz56 : qg9 Tryd.prog 56 = some 1:=by kernel_rfl
theorem ag56 : qi4 Tryd.prog 56 = some false:=by kernel_rfl
theorem zr56 : qe2 Tryd.prog 56 = some (.d (.v .nilFunc)):=by kernel_rfl
theorem sz69 : qg9 Tryd.prog 69 = some 1:=by kernel_rfl
theorem ag69 : qi4 Tryd.prog 69 = some false:=by kernel_rfl
theorem zr69 : qe2 Tryd.prog 69 = some (.nil):=by kernel_rfl
theorem el69 : qj9 Tryd.prog 69 = some 1:=by kernel_rfl
theorem un69 : Tryd.prog.underlying 69 = some (.slice 56):=by kernel_rfl
theorem by69 : qo1 Tryd.prog 69 = some 8:=by kernel_rfl
theorem ez69 : qp8 Tryd.prog 69 = true:=by kernel_rfl
theorem sz79 : qg9 Tryd.prog 79 = some 1:=by kernel_rfl
theorem ag79 : qi4 Tryd.prog 79 = some false:=by kernel_rfl
theorem zr79 : qe2 Tryd.prog 79 = some (.d (.v (.pointer none))):=by kernel_rfl
theorem sz100 : qg9 Tryd.prog 100 = some 6:=by kernel_rfl
theorem ag100 : qi4 Tryd.prog 100 = some true:=by kernel_rfl
theorem zr100 : qe2 Tryd.prog 100 = some (.agg [.d (.v (.int .i64 0)),.d (.v (.int .i64 0)),.d (.v (.string ⟨#[]⟩)),.nil,.nil,.nil]):=by kernel_rfl
theorem pl100 : vn8 Tryd.prog 100 = some [(0,5),(5,1)]:=by kernel_rfl
theorem fl100_0 : qf0 Tryd.prog 100 0 = some (0,5):=by kernel_rfl
theorem pt100_0 : partOf Tryd.prog 100 0 = some (0,5):=by kernel_rfl
theorem fl100_1 : qf0 Tryd.prog 100 1 = some (5,1):=by kernel_rfl
theorem pt100_1 : partOf Tryd.prog 100 1 = some (5,1):=by kernel_rfl
theorem sz101 : qg9 Tryd.prog 101 = some 1:=by kernel_rfl
theorem ag101 : qi4 Tryd.prog 101 = some false:=by kernel_rfl
theorem zr101 : qe2 Tryd.prog 101 = some (.nil):=by kernel_rfl
theorem el101 : qj9 Tryd.prog 101 = some 6:=by kernel_rfl
theorem un101 : Tryd.prog.underlying 101 = some (.slice 100):=by kernel_rfl
theorem by101 : qo1 Tryd.prog 101 = some 104:=by kernel_rfl
theorem ez101 : qp8 Tryd.prog 101 = true:=by kernel_rfl
open And renaming intro → ai
theorem TBS : xg4 (ai sz42 (ai ag42 (ai sz56 (ai ag56 (ai zr56 (ai sz69 (ai ag69 (ai zr69 (ai el69 (ai un69 (ai by69 (ai ez69 (ai sz79 (ai ag79 (ai zr79 (ai sz100 (ai ag100 (ai zr100 (ai pl100 (ai fl100_0 (ai pt100_0 (ai fl100_1 (ai pt100_1 (ai sz101 (ai ag101 (ai zr101 (ai el101 (ai un101 (ai by101 ez101))))))))))))))))))))))))))))) := xh7 _
theorem WB : xg4 (And.intro UN (And.intro LM (And.intro TAS (TBS)))):=xh7 _
end Go.Proofs.YtgecnlcbdbaneaaDoor
/- Facts on the types that the walks meet: sizes, zeros, fields, elements. -/

set_option maxRecDepth 100000
namespace Go.Proofs.YtgecnlcbdbaneaaDoor
open Go.Sw

theorem sz21 : qg9 Tryd.prog 21 = some 1:=by kernel_rfl
theorem ag21 : qi4 Tryd.prog 21 = some false:=by kernel_rfl
theorem zr21 : qe2 Tryd.prog 21 = some (.d (.v (.int .i32 0))):=by kernel_rfl
theorem un21 : Tryd.prog.underlying 21 = some (.int .i32):=by kernel_rfl
open And renaming intro → ai
theorem TCS : xg4 (ai sz21 (ai ag21 (ai zr21 un21))) := xh7 _
theorem WC : xg4 (And.intro UN (And.intro LM (And.intro TAS (And.intro TBS (TCS))))):=xh7 _
end Go.Proofs.YtgecnlcbdbaneaaDoor
/- Facts on the types that the walks meet: sizes, zeros, fields, elements. -/

set_option maxRecDepth 100000
namespace Go.Proofs.YtgecnlcbdbaneaaDoor
open Go.Sw

theorem sz120 : qg9 Tryd.prog 120 = some 1:=by kernel_rfl
theorem ag120 : qi4 Tryd.prog 120 = some false:=by kernel_rfl
theorem zr120 : qe2 Tryd.prog 120 = some (.d (.v (.pointer none))):=by kernel_rfl
theorem sz121 : qg9 Tryd.prog 121 = some 1:=by kernel_rfl
theorem ag121 : qi4 Tryd.prog 121 = some false:=by kernel_rfl
theorem zr121 : qe2 Tryd.prog 121 = some (.d (.v (.map none))):=by kernel_rfl
theorem un121 : Tryd.prog.underlying 121 = some (.map 143 3):=by kernel_rfl
theorem mo121 : mapOf Tryd.prog 121 = some (143,(.int .i64 0)):=by kernel_rfl
theorem sz122 : qg9 Tryd.prog 122 = some 1:=by kernel_rfl
theorem ag122 : qi4 Tryd.prog 122 = some false:=by kernel_rfl
theorem zr122 : qe2 Tryd.prog 122 = some (.nil):=by kernel_rfl
theorem el122 : qj9 Tryd.prog 122 = some 1:=by kernel_rfl
theorem un122 : Tryd.prog.underlying 122 = some (.slice 4):=by kernel_rfl
theorem by122 : qo1 Tryd.prog 122 = some 1:=by kernel_rfl
theorem ez122 : qp8 Tryd.prog 122 = true:=by kernel_rfl
theorem sz124 : qg9 Tryd.prog 124 = some 6:=by kernel_rfl
theorem ag124 : qi4 Tryd.prog 124 = some true:=by kernel_rfl
theorem zr124 : qe2 Tryd.prog 124 = some (.agg [.nil,.nil,.d (.v (.map none)),.nil,.nil,.nil]):=by kernel_rfl
theorem pl124 : vn8 Tryd.prog 124 = some [(0,1),(1,1),(2,1),(3,1),(4,1),(5,1)]:=by kernel_rfl
theorem fl124_0 : qf0 Tryd.prog 124 0 = some (0,1):=by kernel_rfl
theorem pt124_0 : partOf Tryd.prog 124 0 = some (0,1):=by kernel_rfl
theorem fl124_1 : qf0 Tryd.prog 124 1 = some (1,1):=by kernel_rfl
theorem pt124_1 : partOf Tryd.prog 124 1 = some (1,1):=by kernel_rfl
theorem fl124_2 : qf0 Tryd.prog 124 2 = some (2,1):=by kernel_rfl
theorem pt124_2 : partOf Tryd.prog 124 2 = some (2,1):=by kernel_rfl
theorem fl124_3 : qf0 Tryd.prog 124 3 = some (3,1):=by kernel_rfl
theorem pt124_3 : partOf Tryd.prog 124 3 = some (3,1):=by kernel_rfl
theorem fl124_4 : qf0 Tryd.prog 124 4 = some (4,1):=by kernel_rfl
theorem yz5 : partOf Tryd.prog 124 4 = some (4,1):=by kernel_rfl
theorem fl124_5 : qf0 Tryd.prog 124 5 = some (5,1):=by kernel_rfl
theorem pt124_5 : partOf Tryd.prog 124 5 = some (5,1):=by kernel_rfl
theorem sz143 : qg9 Tryd.prog 143 = some 3:=by kernel_rfl
theorem ag143 : qi4 Tryd.prog 143 = some true:=by kernel_rfl
theorem zr143 : qe2 Tryd.prog 143 = some (.agg [.d (.v (.int .i64 0)),.d (.v (.int .i64 0)),.d (.v (.int .i64 0))]):=by kernel_rfl
theorem pt143_0 : partOf Tryd.prog 143 0 = some (0,1):=by kernel_rfl
theorem yz8 : partOf Tryd.prog 143 1 = some (1,1):=by kernel_rfl
theorem pt143_2 : partOf Tryd.prog 143 2 = some (2,1):=by kernel_rfl
open And renaming intro → ai
theorem TDS : xg4 (ai sz120 (ai ag120 (ai zr120 (ai sz121 (ai ag121 (ai zr121 (ai un121 (ai mo121 (ai sz122 (ai ag122 (ai zr122 (ai el122 (ai un122 (ai by122 (ai ez122 (ai sz124 (ai ag124 (ai zr124 (ai pl124 (ai fl124_0 (ai pt124_0 (ai fl124_1 (ai pt124_1 (ai fl124_2 (ai pt124_2 (ai fl124_3 (ai pt124_3 (ai fl124_4 (ai yz5 (ai fl124_5 (ai pt124_5 (ai sz143 (ai ag143 (ai zr143 (ai pt143_0 (ai yz8 pt143_2)))))))))))))))))))))))))))))))))))) := xh7 _
theorem WD : xg4 (And.intro UN (And.intro LM (And.intro TAS (And.intro TBS (And.intro TCS (TDS)))))):=xh7 _
end Go.Proofs.YtgecnlcbdbaneaaDoor
