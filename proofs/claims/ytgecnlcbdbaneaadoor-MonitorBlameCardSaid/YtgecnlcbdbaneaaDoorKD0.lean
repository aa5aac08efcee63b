/- Texts in order, each once: plain. -/
import Derived.Test.YtgecnlcbdbaneaaDoorKV1
import Derived.Lib.SlicesCompact
import Derived.Test.YtgecnlcbdbaneaaDoorH17
set_option linter.unusedVariables false
set_option linter.unusedSimpArgs false
namespace Go.Proofs.YtgecnlcbdbaneaaDoor
open Go.RowKit Go.Sw

def bytesL (L : List ByteArray) : List (List UInt8):=L.map fun s=>s.data.toList
def packL (ss : List (List UInt8)) : List ByteArray:=ss.map fun l=>⟨l.toArray⟩
def sortS (L : List ByteArray) : List ByteArray:=packL ((bytesL L).mergeSort fun x y=>decide (x ≤ y))
def compS (L : List ByteArray) : List ByteArray:=packL (Lib.compact (bytesL L))
def uniL (x y : List ByteArray) : List ByteArray:=compS (sortS (x ++ y))
def intL (x y : List ByteArray) : List ByteArray:=x.filter fun s=>inL y s
end Go.Proofs.YtgecnlcbdbaneaaDoor
/- below.bounded in plain words: all pairs that may be in it are made. -/
namespace Go.Proofs.YtgecnlcbdbaneaaDoor
open Go.RowKit Go.Sw

structure Ky where
 i : Int
 k : Int
 u : Int
deriving DecidableEq
def nA (a b : List Nd) (q : Ky) : Nd:=if q.i = -1 then gAt b q.k else gAt a q.i
def nB (b : List Nd) (q : Ky) : Nd:=gAt b q.k
def bothK (q : Ky) : Bool:=decide (q.i ≠ -1) && decide (q.k ≠ -1)
def badK (a b : List Nd) (q : Ky) : Bool:=bothK q && !(decide ((nA a b q).k = (nB b q).k) && decide ((nA a b q).so = (nB b q).so))
def chB (x : Nd) : Bool:=decide (x.k = 6) || decide (x.k = 7)
def smK (a b : List Nd) (q : Ky) : Bool:=chB (nA a b q) && (bothK q && (decide ((nA a b q).k = 7) != decide (q.u = 1)))
def lbK (a b : List Nd) (q : Ky) : List ByteArray :=
 if chB (nA a b q) = true then (if bothK q = true then (if smK a b q = true then intL (nA a b q).ls (nB b q).ls else uniL (nA a b q).ls (nB b q).ls) else (nA a b q).ls) else []
def goK (g : List Nd) (i p : Int) : Int:=if i = -1 ∨ p = -1 then -1 else (gAt g i).to.getD p.toNat 0
def nxK (a b : List Nd) (q : Ky) (p r u : Int) : Ky:=⟨goK a q.i p,goK b q.k r,u⟩
def ixY (g : List Nd) (i : Int) (l : ByteArray) : Int:=if i = -1 then -1 else ixL l (gAt g i).ls
def chK (a b : List Nd) (q : Ky) : List Ky :=
 if (nA a b q).k = 2 ∨ (nA a b q).k = 3 then [nxK a b q 0 0 q.u]
 else if (nA a b q).k = 4 then [nxK a b q 0 0 (1 - q.u),nxK a b q 1 1 q.u]
 else if (nA a b q).k = 5 then [nxK a b q 0 0 q.u,nxK a b q 1 1 q.u]
 else if chB (nA a b q) = true then (lbK a b q).map fun l=>nxK a b q (ixY a q.i l) (ixY b q.k l) q.u
 else []
def flK (a b : List Nd) (q : Ky) : Bool:=chB (nA a b q) && (decide ((lbK a b q).length = 0) || decide (6 < (lbK a b q).length))
structure Bd where
 ks : List Ky
 ns : List Nd
 sm : List Bool
 fl : List Bool
def okK (n m : Nat) (q : Ky) : Prop:=(q.i = -1 ∨ 0 ≤ q.i ∧ q.i < (n : Int)) ∧ (q.k = -1 ∨ 0 ≤ q.k ∧ q.k < (m : Int)) ∧ ¬ (q.i = -1 ∧ q.k = -1) ∧ (q.u = 0 ∨ q.u = 1)
structure WF (n m : Nat) (s : Bd) : Prop where
 l1 : s.ns.length = s.ks.length
 l2 : s.sm.length = s.ks.length
 l3 : s.fl.length = s.ks.length
 nd : s.ks.Nodup
 ok : ∀ q ∈ s.ks,okK n m q
structure ExB (s s' : Bd) : Prop where
 ks : ∃ l,s'.ks = s.ks ++ l
 ns : ∀ j,j < s.ks.length → s'.ns[j]? = s.ns[j]?
 sm : ∀ j,j < s.ks.length → s'.sm[j]? = s.sm[j]?
 fl : ∀ j,j < s.ks.length → s'.fl[j]? = s.fl[j]?
theorem ExB.refl (s : Bd) : ExB s s:=⟨⟨[],by simp⟩,fun _ _=>rfl,fun _ _=>rfl,fun _ _=>rfl⟩
theorem ExB.len {s s' : Bd} (h : ExB s s') : s.ks.length ≤ s'.ks.length:=by
 obtain ⟨l,e⟩:=h.ks
 rw [e];simp
theorem ExB.get {s s' : Bd} (h : ExB s s') {j : Nat} (hj : j < s.ks.length) : s'.ks[j]? = s.ks[j]? := by
 obtain ⟨l,e⟩:=h.ks
 rw [e];exact List.getElem?_append_left hj
theorem ExB.trans {a b c : Bd} (h : ExB a b) (k : ExB b c) : ExB a c:=by
 have hl:=h.len
 refine ⟨?_,fun j hj=>(k.ns j (by omega)).trans (h.ns j hj),fun j hj=>(k.sm j (by omega)).trans (h.sm j hj),fun j hj=>(k.fl j (by omega)).trans (h.fl j hj)⟩
 obtain ⟨l,e⟩:=h.ks
 obtain ⟨l',e'⟩:=k.ks
 exact ⟨l ++ l',by rw [e',e,List.append_assoc]⟩
inductive All2 {α β : Type} (R : α → β → Prop) : List α → List β → Prop
 | nil : All2 R [] []
 | cons {a : α} {b : β} {l : List α} {m : List β} (h : R a b) (t : All2 R l m) : All2 R (a :: l) (b :: m)
theorem All2.imp {α β : Type} {R S : α → β → Prop} (h : ∀ a b,R a b → S a b) : ∀ {l : List α} {m : List β},All2 R l m → All2 S l m
 | _,_,.nil=>.nil
 | _,_,.cons r t=>.cons (h _ _ r) (All2.imp h t)
theorem All2.get {α β : Type} {R : α → β → Prop} : ∀ {l : List α} {m : List β},All2 R l m → ∀ (i : Nat) (a : α),l[i]? = some a → ∃ b,m[i]? = some b ∧ R a b
 | _,_,.cons r t,0,a,h=>by
  simp only [List.getElem?_cons_zero,Option.some.injEq] at h
  subst h
  exact ⟨_,rfl,r⟩
 | _,_,.cons r t,i + 1,a,h=>by
  simp only [List.getElem?_cons_succ] at h ⊢
  exact All2.get t i a h
 | _,_,.nil,i,a,h=>by simp at h
theorem All2.len {α β : Type} {R : α → β → Prop} : ∀ {l : List α} {m : List β},All2 R l m → m.length = l.length
 | _,_,.nil=>rfl
 | _,_,.cons r t=>by simp [All2.len t]
def IdK (ks : List Ky) (c : Ky) (t : Int) : Prop:=0 ≤ t ∧ ks[t.toNat]? = some c
theorem IdK.ext {s s' : Bd} (h : ExB s s') {c : Ky} {t : Int} (hi : IdK s.ks c t) : IdK s'.ks c t:=⟨hi.1,by rw [h.get (List.getElem?_eq_some_iff.1 hi.2).1];exact hi.2⟩
structure Cmp (a b : List Nd) (s : Bd) (j : Nat) (q : Ky) : Prop where
 k : s.ks[j]? = some q
 sm : s.sm[j]? = some (!badK a b q && smK a b q)
 fl : s.fl[j]? = some (badK a b q || flK a b q)
 nb : badK a b q = true → s.ns[j]? = some n0
 ng : badK a b q = false → ∃ to,s.ns[j]? = some ⟨(nA a b q).k,(nA a b q).so,lbK a b q,to⟩ ∧ All2 (IdK s.ks) (chK a b q) to
theorem Cmp.ext {a b : List Nd} {s s' : Bd} (h : ExB s s') {j : Nat} {q : Ky} (hc : Cmp a b s j q) : Cmp a b s' j q:=by
 have hj : j < s.ks.length:=(List.getElem?_eq_some_iff.1 hc.k).1
 refine ⟨by rw [h.get hj];exact hc.k,by rw [h.sm j hj];exact hc.sm,by rw [h.fl j hj];exact hc.fl,fun e=>by rw [h.ns j hj];exact hc.nb e,fun e=>?_⟩
 obtain ⟨to,h1,h2⟩:=hc.ng e
 exact ⟨to,by rw [h.ns j hj];exact h1,h2.imp fun c t hct=>hct.ext h⟩
structure AddOK (a b : List Nd) (q : Ky) (s : Bd) (r : Int × Bd) : Prop where
 wf : WF a.length b.length r.2
 ex : ExB s r.2
 id : IdK r.2.ks q r.1
 cm : ∀ j,s.ks.length ≤ j → j < r.2.ks.length → ∃ c,Cmp a b r.2 j c
structure AddsOK (a b : List Nd) (cs : List Ky) (s : Bd) (r : List Int × Bd) : Prop where
 wf : WF a.length b.length r.2
 ex : ExB s r.2
 id : All2 (IdK r.2.ks) cs r.1
 cm : ∀ j,s.ks.length ≤ j → j < r.2.ks.length → ∃ c,Cmp a b r.2 j c
end Go.Proofs.YtgecnlcbdbaneaaDoor
/- Bounds of two graphs, told by trees: plain. -/
namespace Go.Proofs.YtgecnlcbdbaneaaDoor
open Go.RowKit Go.Sw

def atL (x : Nd) (l : ByteArray) : Int:=x.to.getD (ixL l x.ls).toNat 0
def shN (x : Nd) : Prop:=shp x.k x.so x.ls x.to.length
theorem shN.one {x : Nd} (h : shN x) (hk : x.k = 2 ∨ x.k = 3) : 0 < x.to.length:=by
 rcases h with ⟨h, -, -, -⟩ | ⟨-, -, -,h⟩ | ⟨h, -, -, -⟩ | ⟨h, -, -, -⟩ <;> omega
theorem shN.two {x : Nd} (h : shN x) (hk : x.k = 4 ∨ x.k = 5) : 0 < x.to.length ∧ 1 < x.to.length:=by
 rcases h with ⟨h, -, -, -⟩ | ⟨h, -, -, -⟩ | ⟨-, -, -,h⟩ | ⟨h, -, -, -⟩ <;> omega
theorem shN.lab {x : Nd} (h : shN x) (hk : x.k = 6 ∨ x.k = 7) : x.ls.length = x.to.length ∧ labelsB x.ls = true:=by
 rcases h with ⟨h, -, -, -⟩ | ⟨h, -, -, -⟩ | ⟨h, -, -, -⟩ | ⟨-, -,h,h'⟩
 · omega
 · omega
 · omega
 · exact ⟨h'.symm,h⟩
def sub1 (u : Int) (n : Nat) (s t : Tr) : Prop:=if u = 1 then subT n s t else subT n t s
def lessK (k u : Int) : Bool:=decide (k = 7) != decide (u = 1)
structure Sub1 (u : Int) (n : Nat) (g h : List Nd) (x z : Nd) : Prop where
 k : x.k = z.k
 so : x.so = z.so
 one : x.k = 2 ∨ x.k = 3 → sub1 u n (obs g n (x.to.getD 0 0)) (obs h n (z.to.getD 0 0))
 four : x.k = 4 → sub1 (1 - u) n (obs g n (x.to.getD 0 0)) (obs h n (z.to.getD 0 0)) ∧ sub1 u n (obs g n (x.to.getD 1 0)) (obs h n (z.to.getD 1 0))
 five : x.k = 5 → sub1 u n (obs g n (x.to.getD 0 0)) (obs h n (z.to.getD 0 0)) ∧ sub1 u n (obs g n (x.to.getD 1 0)) (obs h n (z.to.getD 1 0))
 less : x.k = 6 ∨ x.k = 7 → lessK x.k u = true → ∀ l ∈ z.ls,l ∈ x.ls
 more : x.k = 6 ∨ x.k = 7 → lessK x.k u = false → ∀ l ∈ x.ls,l ∈ z.ls
 lab : x.k = 6 ∨ x.k = 7 → ∀ l ∈ x.ls,l ∈ z.ls → sub1 u n (obs g n (atL x l)) (obs h n (atL z l))
structure Bnd (a b : List Nd) (q : Ky) (c : List Nd) (v : Int) : Prop where
 i : q.i ≠ -1 → ∀ n,sub1 q.u n (obs a n q.i) (obs c n v)
 k : q.k ≠ -1 → ∀ n,sub1 q.u n (obs b n q.k) (obs c n v)
theorem Gd.shN {g : List Nd} (h : Gd g) {i : Int} (hi : 0 ≤ i ∧ i < (g.length : Int)) : shN (gAt g i):=h.sh _ (gAt_mem hi.1 hi.2)
theorem Gd.lab {g : List Nd} (h : Gd g) {i : Int} (hi : 0 ≤ i ∧ i < (g.length : Int)) : ∀ l ∈ (gAt g i).ls,isNameB l = true:=(h.ok _ (gAt_mem hi.1 hi.2)).nm
theorem getD_inD {l : List Int} {i : Nat} (h : i < l.length) : l.getD i 0 ∈ l:=by
 simp [List.getD,h]
theorem Gd.to {g : List Nd} (h : Gd g) {i : Int} (hi : 0 ≤ i ∧ i < (g.length : Int)) (p : Nat) : 0 ≤ (gAt g i).to.getD p 0 ∧ (gAt g i).to.getD p 0 < (g.length : Int):=by
 have hp:=h.pos
 by_cases hl : p < (gAt g i).to.length
 · exact (h.ok _ (gAt_mem hi.1 hi.2)).ok.r _ (getD_inD hl)
 · simp only [List.getD]
   rw [List.getElem?_eq_none (by omega)]
   simp only [Option.getD_none]
   omega
end Go.Proofs.YtgecnlcbdbaneaaDoor
