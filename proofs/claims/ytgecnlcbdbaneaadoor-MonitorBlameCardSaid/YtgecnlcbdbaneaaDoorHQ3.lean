/- What is below, of trees; below.both's why tells it. -/
import Derived.Test.YtgecnlcbdbaneaaDoorHQ2
import Derived.Test.YtgecnlcbdbaneaaDoorH10
set_option linter.unusedVariables false
set_option linter.unusedSimpArgs false
namespace Go.Proofs.YtgecnlcbdbaneaaDoor
open Go.RowKit Go.Sw

theorem tl_inj {x y : ByteArray} (h : x.toList = y.toList) : x = y:=by
 rw [Lib.toList_data,Lib.toList_data] at h
 exact bs_inj h
theorem inL_iff {ls : List ByteArray} {x : ByteArray} : inL ls x = true ↔ x ∈ ls:=by
 unfold inL
 rw [List.any_eq_true]
 constructor
 · rintro ⟨b,hb,e⟩
   rw [tl_inj (beq_iff_eq.1 e)];exact hb
 · intro h;exact ⟨x,h,beq_iff_eq.2 rfl⟩
def kid (l : List Tr) (i : Nat) : Tr:=l.getD i .cut
def kidL (ls : List ByteArray) (l : List Tr) (x : ByteArray) : Tr:=kid l (ixL x ls).toNat
def subT : Nat → Tr → Tr → Prop
 | 0,_,_=>True
 | n + 1,.nd k so ls l,.nd k' so' ls' l'=>k = k' ∧ so = so' ∧
     (k = 2 ∨ k = 3 → subT n (kid l 0) (kid l' 0)) ∧
     (k = 4 → subT n (kid l' 0) (kid l 0) ∧ subT n (kid l 1) (kid l' 1)) ∧
     (k = 5 → subT n (kid l 0) (kid l' 0) ∧ subT n (kid l 1) (kid l' 1)) ∧
     (k = 6 → ∀ x ∈ ls',x ∈ ls ∧ subT n (kidL ls l x) (kidL ls' l' x)) ∧
     (¬ (k = 2 ∨ k = 3) → ¬ (k = 4 ∨ k = 5) → k ≠ 6 → ∀ x ∈ ls,x ∈ ls' ∧ subT n (kidL ls l x) (kidL ls' l' x))
 | _ + 1,.cut,.cut=>True
 | _ + 1,.cut,.nd _ _ _ _=>False
 | _ + 1,.nd _ _ _ _,.cut=>False
theorem sub_refl : ∀ (n : Nat) (a : Tr),subT n a a
 | 0,_=>trivial
 | n + 1,.cut=>trivial
 | n + 1,.nd k so ls l=>by
  have h:=sub_refl n
  exact ⟨rfl,rfl,fun _=>h _,fun _=>⟨h _,h _⟩,fun _=>⟨h _,h _⟩,fun _ x hx=>⟨hx,h _⟩,fun _ _ _ x hx=>⟨hx,h _⟩⟩
def belN (g h : List Nd) : Nat → Pr → Prop
 | 0,_=>True
 | n + 1,p => ∃ l,fitsP g h p = some l ∧ ∀ s ∈ l,belN g h n s.2
def tX (g h : List Nd) (n : Nat) (p : Pr) : Tr:=if p.t = true then obs h n p.b else obs g n p.a
def tY (g h : List Nd) (n : Nat) (p : Pr) : Tr:=if p.t = true then obs g n p.a else obs h n p.b
def lX (g h : List Nd) (n : Nat) (p : Pr) : List Tr:=(ndX g h p).to.map (obs (if p.t = true then h else g) n)
def lY (g h : List Nd) (n : Nat) (p : Pr) : List Tr:=(ndY g h p).to.map (obs (if p.t = true then g else h) n)
theorem tX_succ (g h : List Nd) (n : Nat) (p : Pr) : tX g h (n + 1) p = .nd (ndX g h p).k (ndX g h p).so (ndX g h p).ls (lX g h n p):=by
 obtain ⟨a,b,t⟩:=p
 cases t <;> rfl
theorem tY_succ (g h : List Nd) (n : Nat) (p : Pr) : tY g h (n + 1) p = .nd (ndY g h p).k (ndY g h p).so (ndY g h p).ls (lY g h n p):=by
 obtain ⟨a,b,t⟩:=p
 cases t <;> rfl
theorem kid_map {g : List Nd} {n : Nat} {to : List Int} {i : Nat} (h : i < to.length) : kid (to.map (obs g n)) i = obs g n (to.getD i 0):=by
 unfold kid
 simp [List.getD,List.getElem?_eq_getElem h]
theorem toP_X {g h : List Nd} {p : Pr} {i k : Int} {t : Bool} (n : Nat) (hi : i.toNat < (ndX g h p).to.length) (hk : k.toNat < (ndY g h p).to.length) :
 tX g h n (toP g h p i k t) = (if t = true then kid (lY g h n p) k.toNat else kid (lX g h n p) i.toNat) ∧ tY g h n (toP g h p i k t) = (if t = true then kid (lX g h n p) i.toNat else kid (lY g h n p) k.toNat):=by
 have e1 : kid (lX g h n p) i.toNat = obs (if p.t = true then h else g) n ((ndX g h p).to.getD i.toNat 0):=kid_map hi
 have e2 : kid (lY g h n p) k.toNat = obs (if p.t = true then g else h) n ((ndY g h p).to.getD k.toNat 0):=kid_map hk
 rw [e1,e2]
 obtain ⟨a,b,u⟩:=p
 cases u <;> cases t <;> exact ⟨rfl,rfl⟩
theorem pair_good {g h : List Nd} (hg : ∀ n ∈ g,NdG g.length n) (hh : ∀ n ∈ h,NdG h.length n) {p : Pr} (a0 : 0 ≤ p.a) (a1 : p.a < (g.length : Int)) (b0 : 0 ≤ p.b) (b1 : p.b < (h.length : Int)) : NdSh (ndX g h p) ∧ NdSh (ndY g h p):=by
 unfold ndX ndY
 have h1:=(hg _ (gAt_mem a0 a1)).sh
 have h2:=(hh _ (gAt_mem b0 b1)).sh
 split
 · exact ⟨h2,h1⟩
 · exact ⟨h1,h2⟩
theorem ixL_mem {x : ByteArray} {ls : List ByteArray} (h : x ∈ ls) : 0 ≤ ixL x ls ∧ (ixL x ls).toNat < ls.length:=by
 have:=idx_range (s:=x.toList) (l:=ls) (j:=0) (by rw [List.any_eq_true];exact ⟨x,h,beq_iff_eq.2 rfl⟩)
 unfold ixL
 omega
theorem bel_sub {g h : List Nd} (g0 : 0 < g.length) (h0 : 0 < h.length) (hg : ∀ n ∈ g,NdG g.length n) (hh : ∀ n ∈ h,NdG h.length n) : ∀ (n : Nat) (p : Pr),0 ≤ p.a → p.a < (g.length : Int) → 0 ≤ p.b → p.b < (h.length : Int) →
 (belN g h n p ↔ subT n (tX g h n p) (tY g h n p))
 | 0,p,_,_,_,_=>by simp [belN,subT]
 | n + 1, p,a0,a1,b0,b1=>by
  obtain ⟨sx,sy⟩:=pair_good hg hh a0 a1 b0 b1
  have st : ∀ (i k : Int) (t : Bool),i.toNat < (ndX g h p).to.length → k.toNat < (ndY g h p).to.length → (belN g h n (toP g h p i k t) ↔ if t = true then subT n (kid (lY g h n p) k.toNat) (kid (lX g h n p) i.toNat) else subT n (kid (lX g h n p) i.toNat) (kid (lY g h n p) k.toNat)):=fun i k t hi hk=>by
   have r:=toP_range g0 h0 hg hh a0 a1 b0 b1 i k t
   rw [bel_sub g0 h0 hg hh n _ r.1.1 r.1.2 r.2.1 r.2.2,(toP_X n hi hk).1,(toP_X n hi hk).2]
   cases t <;> rfl
  rw [belN,tX_succ,tY_succ,subT]
  generalize lX g h n p = LX at *
  generalize lY g h n p = LY at *
  have fe : fitsP g h p = (if (ndX g h p).k ≠ (ndY g h p).k then none else if (ndX g h p).so ≠ (ndY g h p).so then none
   else if (ndX g h p).k = 2 ∨ (ndX g h p).k = 3 then some [(dotS,toP g h p 0 0 false)]
   else if (ndX g h p).k = 4 ∨ (ndX g h p).k = 5 then some [(hatS,toP g h p 0 0 ((ndX g h p).k == 4)),(dotS,toP g h p 1 1 false)]
   else if (fewL (ndX g h p) (ndY g h p)).all (fun l=>inL (manyL (ndX g h p) (ndY g h p)) l) = true then some ((fewL (ndX g h p) (ndY g h p)).map fun l=>(l,toP g h p (ixL l (ndX g h p).ls) (ixL l (ndY g h p).ls) false)) else none):=rfl
  rw [fe]
  clear fe
  generalize ndX g h p = X at *
  generalize ndY g h p = Y at *
  obtain ⟨x1,x2,x3,x6⟩:=sx
  obtain ⟨y1,y2,y3,y6⟩:=sy
  by_cases hk : X.k = Y.k
  rotate_left
  · rw [if_pos hk]
    exact ⟨fun ⟨l,hl,_⟩=>(by cases hl),fun hs=>absurd hs.1 hk⟩
  rw [if_neg (by simpa using hk)]
  by_cases hs : X.so = Y.so
  rotate_left
  · rw [if_pos hs]
    exact ⟨fun ⟨l,hl,_⟩=>(by cases hl),fun h=>absurd h.2.1 hs⟩
  rw [if_neg (by simpa using hs)]
  by_cases h23 : X.k = 2 ∨ X.k = 3
  · rw [if_pos h23]
    have e:=st 0 0 false (by have:=x1 h23;omega) (by have:=y1 (hk ▸ h23);omega)
    constructor
    · rintro ⟨l,hl,hb⟩
      cases hl
      have:=e.1 (hb (dotS,toP g h p 0 0 false) (by simp))
      exact ⟨hk,hs,fun _=>this,fun h=>by omega,fun h=>by omega,fun h=>by omega,fun h=>absurd h23 h⟩
    · rintro ⟨-, -,h1, -⟩
      refine ⟨_,rfl,fun s hs=>?_⟩
      rw [List.mem_singleton] at hs
      subst hs
      exact e.2 (h1 h23)
  rw [if_neg h23]
  by_cases h45 : X.k = 4 ∨ X.k = 5
  · rw [if_pos h45]
    have xl:=x2 h45
    have yl:=y2 (hk ▸ h45)
    have e1:=st 0 0 (X.k == 4) (by omega) (by omega)
    have e2:=st 1 1 false (by show 1 < _;omega) (by show 1 < _;omega)
    rw [if_neg (by decide)] at e2
    constructor
    · rintro ⟨l,hl,hb⟩
      cases hl
      have q1:=e1.1 (hb (hatS,toP g h p 0 0 (X.k == 4)) (by simp))
      have q2:=e2.1 (hb (dotS,toP g h p 1 1 false) (by simp))
      refine ⟨hk,hs,fun h=>absurd h h23,fun h=>?_,fun h=>?_,fun h=>by omega,fun _ h=>absurd h45 h⟩
      · rw [if_pos (by simpa using h)] at q1;exact ⟨q1,q2⟩
      · rw [if_neg (by simp;omega)] at q1;exact ⟨q1,q2⟩
    · rintro ⟨-, -, -,h1,h2, -⟩
      refine ⟨_,rfl,fun s hs=>?_⟩
      rcases List.mem_cons.1 hs with rfl | hs
      · refine e1.2 ?_
        rcases h45 with h4 | h5
        · rw [if_pos (by simpa using h4)];exact (h1 h4).1
        · rw [if_neg (by simp;omega)];exact (h2 h5).1
      · rw [List.mem_singleton] at hs
        subst hs
        refine e2.2 ?_
        rcases h45 with h4 | h5
        · exact (h1 h4).2
        · exact (h2 h5).2
  rw [if_neg h45]
  have lab : ∀ l : ByteArray,l ∈ X.ls → l ∈ Y.ls → (belN g h n (toP g h p (ixL l X.ls) (ixL l Y.ls) false) ↔ subT n (kidL X.ls LX l) (kidL Y.ls LY l)):=fun l hX hY=>by
   have r1:=ixL_mem hX
   have r2:=ixL_mem hY
   have:=st (ixL l X.ls) (ixL l Y.ls) false (by omega) (by omega)
   rw [if_neg (by decide)] at this
   exact this
  by_cases h6 : X.k = 6
  · have ef : fewL X Y = Y.ls:=by unfold fewL;rw [if_pos h6]
    have em : manyL X Y = X.ls:=by unfold manyL;rw [if_pos h6]
    rw [ef,em]
    constructor
    · rintro ⟨l,hl,hb⟩
      split at hl
      · rename_i ha
        rw [List.all_eq_true] at ha
        cases hl
        refine ⟨hk,hs,fun h=>absurd h h23,fun h=>by omega,fun h=>by omega,fun _ x hx=>?_,fun _ _ h=>absurd h6 h⟩
        have hX:=inL_iff.1 (ha x hx)
        exact ⟨hX,(lab x hX hx).1 (hb _ (List.mem_map.2 ⟨x,hx,rfl⟩))⟩
      · cases hl
    · rintro ⟨-, -, -, -, -,h1, -⟩
      have h1:=h1 h6
      rw [if_pos (by rw [List.all_eq_true];exact fun x hx=>inL_iff.2 (h1 x hx).1)]
      refine ⟨_,rfl,fun s hs=>?_⟩
      obtain ⟨x,hx,rfl⟩:=List.mem_map.1 hs
      exact (lab x (h1 x hx).1 hx).2 (h1 x hx).2
  · have ef : fewL X Y = X.ls:=by unfold fewL;rw [if_neg h6]
    have em : manyL X Y = Y.ls:=by unfold manyL;rw [if_neg h6]
    rw [ef,em]
    constructor
    · rintro ⟨l,hl,hb⟩
      split at hl
      · rename_i ha
        rw [List.all_eq_true] at ha
        cases hl
        refine ⟨hk,hs,fun h=>absurd h h23,fun h=>by omega,fun h=>by omega,fun h=>absurd h h6,fun _ _ _ x hx=>?_⟩
        have hY:=inL_iff.1 (ha x hx)
        exact ⟨hY,(lab x hx hY).1 (hb _ (List.mem_map.2 ⟨x,hx,rfl⟩))⟩
      · cases hl
    · rintro ⟨-, -, -, -, -, -,h1⟩
      have h1:=h1 h23 h45 h6
      rw [if_pos (by rw [List.all_eq_true];exact fun x hx=>inL_iff.2 (h1 x hx).1)]
      refine ⟨_,rfl,fun s hs=>?_⟩
      obtain ⟨x,hx,rfl⟩:=List.mem_map.1 hs
      exact (lab x hx (h1 x hx).1).2 (h1 x hx).2
def allB (g h : List Nd) (p : Pr) : Prop := ∀ n,belN g h n p
theorem allB_step {g h : List Nd} {p : Pr} (hp : allB g h p) : ∃ l,fitsP g h p = some l ∧ ∀ s ∈ l,allB g h s.2:=by
 obtain ⟨l,hl, -⟩:=hp 1
 refine ⟨l,hl,fun s hs n=>?_⟩
 obtain ⟨l',hl',h'⟩:=hp (n + 1)
 rw [hl] at hl'
 cases hl'
 exact h' s hs
theorem fold_all {Q : Pr → Prop} (path : List ByteArray) : ∀ (l : List (ByteArray × Pr)) (qu : Qu),(∀ q ∈ qu,Q q.1) → (∀ s ∈ l,Q s.2) → ∀ q ∈ l.foldl (addQ path) qu,Q q.1
 | [],qu,h,_=>h
 | s :: l, qu,h,hl=>fold_all path l (addQ path qu s) (by
     intro q hq
     unfold addQ at hq
     split at hq
     · exact h q hq
     · rcases List.mem_append.1 hq with hq | hq
       · exact h q hq
       · rw [List.mem_singleton] at hq
         subst hq
         exact hl s (by simp)) fun x hx=>hl x (by simp [hx])
theorem whyF_none {g h : List Nd} : ∀ (f at' : Nat) (qu : Qu),(∀ q ∈ qu,allB g h q.1) → whyF g h f at' qu = none
 | 0,_,_,_=>rfl
 | f + 1,at',qu,hq=>by
  unfold whyF
  cases hx : qu[at']? with
  | none=>rfl
  | some q =>
   obtain ⟨p,path⟩:=q
   obtain ⟨l,hl,hs⟩:=allB_step (hq _ (List.mem_of_getElem? hx))
   simp only at hl
   simp only [hl]
   exact whyF_none f _ _ (fold_all path l qu hq hs)
theorem fold_has (path : List ByteArray) : ∀ (l : List (ByteArray × Pr)) (qu : Qu),(∀ p,hasQ p qu = true → hasQ p (l.foldl (addQ path) qu) = true) ∧ ∀ s ∈ l,hasQ s.2 (l.foldl (addQ path) qu) = true
 | [],qu=>⟨fun _ h=>h,fun s hs=>by cases hs⟩
 | s :: l,qu=>by
  have ih:=fold_has path l (addQ path qu s)
  have h1 : ∀ p,hasQ p qu = true → hasQ p (addQ path qu s) = true:=fun p hp=>by
   unfold addQ
   split
   · exact hp
   · rw [has_mem] at hp ⊢
     rw [List.map_append];exact List.mem_append_left _ hp
  have h2 : hasQ s.2 (addQ path qu s) = true:=by
   unfold addQ
   split
   · rename_i h;exact h
   · rw [has_mem];simp
  refine ⟨fun p hp=>ih.1 p (h1 p hp),fun x hx=>?_⟩
  rcases List.mem_cons.1 hx with rfl | hx
  · exact ih.1 _ h2
  · exact ih.2 x hx
theorem whyF_closed {g h : List Nd} (hok : FitsOK g h) : ∀ (f at' : Nat) (qu : Qu),QI g.length h.length qu → at' ≤ qu.length → 2 * g.length * h.length + 1 ≤ at' + f →
 (∀ (i : Nat) (q : Pr × List ByteArray),i < at' → qu[i]? = some q → ∃ l,fitsP g h q.1 = some l ∧ ∀ s ∈ l,hasQ s.2 qu = true) → whyF g h f at' qu = none →
 ∃ qu' : Qu,(∀ p,hasQ p qu = true → hasQ p qu' = true) ∧ ∀ p,hasQ p qu' = true → ∃ l,fitsP g h p = some l ∧ ∀ s ∈ l,hasQ s.2 qu' = true
 | 0,at',qu,hq,ha,hf,hc,hw=>by
  have:=hq.len
  omega
 | f + 1, at',qu,hq,ha,hf,hc,hw=>by
  unfold whyF at hw
  cases hx : qu[at']? with
  | none =>
   have : qu.length ≤ at':=by simpa using hx
   refine ⟨qu,fun _ h=>h,fun p hp=>?_⟩
   rw [has_mem] at hp
   obtain ⟨q,hq,rfl⟩:=List.mem_map.1 hp
   obtain ⟨i,hi,rfl⟩:=List.mem_iff_getElem.1 hq
   exact hc i _ (by omega) (List.getElem?_eq_getElem hi)
  | some q =>
   obtain ⟨p,path⟩:=q
   rw [hx] at hw
   simp only at hw
   have hlt:=(List.getElem?_eq_some_iff.1 hx).1
   have hp:=hq.p at' _ hx
   have hr:=hq.r _ (List.mem_of_getElem? hx)
   simp only at hr hp
   cases hF : fitsP g h p with
   | none=>rw [hF] at hw;cases hw
   | some l =>
    rw [hF] at hw
    simp only at hw
    have hl:=adds_len path l qu
    have hh:=fold_has path l qu
    obtain ⟨qu',h1,h2⟩:=whyF_closed hok f (at' + 1) (l.foldl (addQ path) qu) (QI.adds hp hq hlt ((hok p hr.1.1 hr.1.2 hr.2.1 hr.2.2).2.2 l hF)) (by omega) (by omega) (fun i q hi hqi=>by
     rw [hl.2 i (by omega)] at hqi
     by_cases he : i = at'
     · subst he
       rw [hx] at hqi
       cases hqi
       exact ⟨l,hF,hh.2⟩
     · obtain ⟨l',e1,e2⟩:=hc i q (by omega) hqi
       exact ⟨l',e1,fun s hs=>hh.1 _ (e2 s hs)⟩) hw
    exact ⟨qu',fun p hp=>h1 p (hh.1 p hp),h2⟩
theorem why_iff {g h : List Nd} (g0 : 0 < g.length) (h0 : 0 < h.length) (hg : ∀ n ∈ g,NdG g.length n) (hh : ∀ n ∈ h,NdG h.length n) : whyP g h = none ↔ ∀ n,subT n (obs g n 0) (obs h n 0):=by
 have key : ∀ n,belN g h n ⟨0,0,false⟩ ↔ subT n (obs g n 0) (obs h n 0):=fun n=>bel_sub g0 h0 hg hh n ⟨0,0,false⟩ (by decide) (by simp only;omega) (by decide) (by simp only;omega)
 constructor
 · intro hw n
   rw [← key]
   unfold whyP at hw
   obtain ⟨qu,h1,h2⟩:=whyF_closed (fits_ok g0 h0 hg hh) _ 0 [(⟨0,0,false⟩,[])] ⟨by simp,by simp;omega,fun i q h=>by
    cases i with
    | zero=>simp at h;subst h;simp
    | succ i=>simp at h⟩ (by simp) (by omega) (fun i q hi=>by omega) hw
   have : ∀ (n : Nat) (p : Pr),hasQ p qu = true → belN g h n p:=fun n=>by
    induction n with
    | zero=>intro p _;trivial
    | succ n ih =>
     intro p hp
     obtain ⟨l,e1,e2⟩:=h2 p hp
     exact ⟨l,e1,fun s hs=>ih _ (e2 s hs)⟩
   exact this n _ (h1 _ (by rw [has_mem];simp))
 · intro hs
   unfold whyP
   refine whyF_none _ _ _ fun q hq=>?_
   rw [List.mem_singleton] at hq
   subst hq
   intro n
   exact (key n).2 (hs n)
end Go.Proofs.YtgecnlcbdbaneaaDoor
