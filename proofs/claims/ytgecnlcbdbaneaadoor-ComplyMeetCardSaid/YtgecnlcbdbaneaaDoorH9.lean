/- below.of, Is, Why; a symbolic walk. -/
import Derived.Test.YtgecnlcbdbaneaaDoorH8
import Derived.Test.YtgecnlcbdbaneaaDoorHP5
import Derived.Test.YtgecnlcbdbaneaaDoorHQ1
-- TYPESA
set_option linter.unusedVariables false
set_option linter.unusedSimpArgs false
namespace Go.Proofs.YtgecnlcbdbaneaaDoor
open Go.RowKit Go.Sw
open _root_.Option renaming isSome_some → za

def qs6 (x y : Tp) : Int:=if qd9 x = 0 then qd9 y else qd9 x
def OfFn (Γ : Gl) (x : Tp) : Prop:=DFn Tryd.prog Γ 12 [x.d] (.tup [.slc ((ofP x).map Nd.d),iD (qd9 x)])
def ye6 (x y : Tp) : D:=if qd9 x = 0 then .agg [.slc ((ofP x).map Nd.d),.slc ((ofP y).map Nd.d)] else .agg [.slc [],.slc []]
set_option maxHeartbeats 8000000 in
set_option maxRecDepth 100000 in
theorem yx8 (Γ : Gl) (x y : Tp) (hx : OfFn Γ x) (hy : OfFn Γ y) : DFn Tryd.prog Γ 66 [x.d,y.d] (.tup [ye6 x y,iD (qs6 x y)]):=by
 unfold OfFn at hx hy
 unfold ye6 qs6
 generalize (ofP x).map Nd.d = A at hx ⊢
 generalize (ofP y).map Nd.d = B at hy ⊢
 generalize qd9 x = c at hx ⊢
 generalize qd9 y = d at hy ⊢
 obtain ⟨k,so,nm,ls,l⟩:=x
 obtain ⟨k',so',nm',ls',l'⟩:=y
 simp only [Tp.d] at hx hy ⊢
 by_cases hc : c = 0
 · rw [if_pos hc,if_pos hc]
   have g1 : (c != 0) = false:=by simpa using hc
   refine qa4 (N:=28) Tryd.func66 rfl (by decide) rfl rfl (by simp) (fun C h0=>?_)
   simp only [qj1]
   repeat' (first|(with_reducible apply zz1)|((with_reducible apply zz2);rfl;intro K' hK';simp only [WA,simprocAttr];(repeat (constructor;focus (clear hK';intros;simp_all;done)));(try (apply hK';clear hK' K')))|((with_reducible apply zz3);rfl;all_goals (intro h;try exact absurd h (by decide))))
   refine qb4 h0 rfl (by simp only [WA,simprocAttr]) rfl (by simp only [qe6,za,WA,simprocAttr]) (hx) ?_
   simp only [WA,simprocAttr,inX,qc7, ]
   (repeat (constructor;focus (clear hK';intros;simp_all;done)))
   (try (apply hK';clear hK' K'))
   repeat' (first|(with_reducible apply zz1)|((with_reducible apply zz2);rfl;intro K' hK';simp only [WA,simprocAttr];(repeat (constructor;focus (clear hK';intros;simp_all;done)));(try (apply hK';clear hK' K')))|((with_reducible apply zz3);rfl;all_goals (intro h;try exact absurd h (by decide))))
   refine qb4 h0 rfl (by simp only [WA,simprocAttr]) rfl (by simp only [qe6,za,WA,simprocAttr]) (hy) ?_
   simp only [WA,simprocAttr,inX,qc7, ]
   (repeat (constructor;focus (clear hK';intros;simp_all;done)))
   (try (apply hK';clear hK' K'))
   repeat' (first|(with_reducible apply zz1)|((with_reducible apply zz2);rfl;intro K' hK';simp only [WA,simprocAttr,g1];(repeat (constructor;focus (clear hK';intros;simp_all;done)));(try (apply hK';clear hK' K')))|((with_reducible apply zz3);rfl;all_goals (intro h;try exact absurd h (by decide))))
   simp only [qf7,qd5,qa2,qd6,WA,simprocAttr]
 · rw [if_neg hc,if_neg hc]
   have g1 : (c != 0) = true:=by simpa using hc
   refine qa4 (N:=28) Tryd.func66 rfl (by decide) rfl rfl (by simp) (fun C h0=>?_)
   simp only [qj1]
   repeat' (first|(with_reducible apply zz1)|((with_reducible apply zz2);rfl;intro K' hK';simp only [WA,simprocAttr];(repeat (constructor;focus (clear hK';intros;simp_all;done)));(try (apply hK';clear hK' K')))|((with_reducible apply zz3);rfl;all_goals (intro h;try exact absurd h (by decide))))
   refine qb4 h0 rfl (by simp only [WA,simprocAttr]) rfl (by simp only [qe6,za,WA,simprocAttr]) (hx) ?_
   simp only [WA,simprocAttr,inX,qc7, ]
   (repeat (constructor;focus (clear hK';intros;simp_all;done)))
   (try (apply hK';clear hK' K'))
   repeat' (first|(with_reducible apply zz1)|((with_reducible apply zz2);rfl;intro K' hK';simp only [WA,simprocAttr];(repeat (constructor;focus (clear hK';intros;simp_all;done)));(try (apply hK';clear hK' K')))|((with_reducible apply zz3);rfl;all_goals (intro h;try exact absurd h (by decide))))
   refine qb4 h0 rfl (by simp only [WA,simprocAttr]) rfl (by simp only [qe6,za,WA,simprocAttr]) (hy) ?_
   simp only [WA,simprocAttr,inX,qc7, ]
   (repeat (constructor;focus (clear hK';intros;simp_all;done)))
   (try (apply hK';clear hK' K'))
   repeat' (first|(with_reducible apply zz1)|((with_reducible apply zz2);rfl;intro K' hK';simp only [WA,simprocAttr,g1];(repeat (constructor;focus (clear hK';intros;simp_all;done)));(try (apply hK';clear hK' K')))|((with_reducible apply zz3);rfl;all_goals (intro h;try exact absurd h (by decide))))
   simp only [qf7,qd5,qa2,qd6,WA,simprocAttr]
def wyE (x y : Tp) : Int:=if qs6 x y = 0 then (match yf2 (ofP x) (ofP y) with | some _=>0 | none=>8) else qs6 x y
def wyL (x y : Tp) : List ByteArray:=if qs6 x y = 0 then (match yf2 (ofP x) (ofP y) with | some l=>l | none=>[]) else []
theorem qi6 {x y : Tp} (h : qs6 x y = 0) : qd9 x = 0 ∧ qd9 y = 0:=by
 unfold qs6 at h
 split at h
 · rename_i h1;exact ⟨h1,h⟩
 · rename_i h1;exact absurd h h1
theorem xt0 (x y : Tp) : ∃ A B,ye6 x y = .agg [.slc A,.slc B]:=by
 unfold ye6
 split
 · exact ⟨_,_,rfl⟩
 · exact ⟨_,_,rfl⟩
end Go.Proofs.YtgecnlcbdbaneaaDoor
/- graph.Of, below's Is and Why for all types: the walks and the plain facts joined. -/
namespace Go.Proofs.YtgecnlcbdbaneaaDoor
open Go.RowKit Go.Sw

theorem xu5 (Γ : Gl) (x : Tp) : OfFn Γ x:=by
 refine of_fn0 Γ x (fun h=>?_) (fun h=>?_)
 · have:=qr1 h
   exact ⟨add_all Γ this.1,this.2.1,this.2.2.1⟩
 · obtain ⟨h1,h2,h3,h4,h5,h6⟩:=qr1 h
   have hp:=xc7 Γ 100 (Nat.le_refl _) (by decide) (fun n h0 h1=>itoa_fn Γ n h0 (by omega)) (vv8 x) (by show (vv8 x).length ≤ 100;unfold vv8;omega) (fun n hn=>(h6 n hn).ok) (fun cl hl hc=>grow h6 h5 cl hl (fun c h=>by have:=hc c h;omega))
   exact xp4 Γ (vv8 x) (by show (vv8 x).length ≤ 250;unfold vv8;omega) h4 (fun n hn=>(h6 n hn).ok) (vs5 _) hp
theorem vj0 {x : Tp} (h : qd9 x = 0) : 0 < (ofP x).length ∧ (ofP x).length ≤ 60 ∧ ∀ n ∈ ofP x,NdG (ofP x).length n:=by
 obtain ⟨h1,h2,h3,h4,h5,h6⟩:=qr1 h
 unfold ofP
 rw [if_pos h]
 have:=vf2 (g:=vv8 x) h4 h6
 exact ⟨this.1,Nat.le_trans this.2.1 h5,this.2.2⟩
theorem qd0 {g : List Nd} {i : Int} (h0 : 0 ≤ i) (h1 : i < (g.length : Int)) : gAt g i ∈ g:=by
 unfold gAt
 rw [List.getD_eq_getElem?_getD,List.getElem?_eq_getElem (by omega),Option.getD_some]
 exact List.getElem_mem _
theorem vc7 {g : List Nd} (h0 : 0 < g.length) {n : Nd} (hn : NdG g.length n) (i : Nat) : 0 ≤ n.to.getD i 0 ∧ n.to.getD i 0 < (g.length : Int):=by
 rw [List.getD_eq_getElem?_getD]
 cases h : n.to[i]? with
 | none=>simp only [Option.getD_none];omega
 | some t=>exact hn.ok.r t (List.mem_of_getElem? h)
theorem xd1 {g h : List Nd} (g0 : 0 < g.length) (h0 : 0 < h.length) (hg : ∀ n ∈ g,NdG g.length n) (hh : ∀ n ∈ h,NdG h.length n) {p : Pr} (a0 : 0 ≤ p.a) (a1 : p.a < (g.length : Int)) (b0 : 0 ≤ p.b) (b1 : p.b < (h.length : Int)) (i k : Int) (t : Bool) :
 (0 ≤ (toP g h p i k t).a ∧ (toP g h p i k t).a < (g.length : Int)) ∧ 0 ≤ (toP g h p i k t).b ∧ (toP g h p i k t).b < (h.length : Int):=by
 have h1:=vc7 g0 (hg _ (qd0 a0 a1))
 have h2:=vc7 h0 (hh _ (qd0 b0 b1))
 unfold toP
 split
 · exact ⟨h1 _,h2 _⟩
 · exact ⟨h1 _,h2 _⟩
theorem yc9 {g h : List Nd} (g0 : 0 < g.length) (h0 : 0 < h.length) (hg : ∀ n ∈ g,NdG g.length n) (hh : ∀ n ∈ h,NdG h.length n) : ye3 g h:=by
 intro p a0 a1 b0 b1
 refine ⟨?_,?_,fun l hl s hs=>?_⟩
 · unfold ndX
   split
   · exact (hh _ (qd0 b0 b1)).sh
   · exact (hg _ (qd0 a0 a1)).sh
 · unfold ndY
   split
   · exact (hg _ (qd0 a0 a1)).sh
   · exact (hh _ (qd0 b0 b1)).sh
 · have key:=xd1 g0 h0 hg hh a0 a1 b0 b1
   unfold qx5 at hl
   split at hl
   · cases hl
   split at hl
   · cases hl
   split at hl
   · cases hl
     obtain rfl : s = (xi1,toP g h p 0 0 false):=by simpa using hs
     exact key _ _ _
   split at hl
   · cases hl
     rcases List.mem_cons.1 hs with rfl | hs
     · exact key _ _ _
     · obtain rfl : s = (xi1,toP g h p 1 1 false):=by simpa using hs
       exact key _ _ _
   split at hl
   · cases hl
     obtain ⟨x, -,rfl⟩:=List.mem_map.1 hs
     exact key _ _ _
   · cases hl
def sA : Tp:=.mk 2 1 noB [] [.mk 1 0 noB [] []]
def sB : Tp:=.mk 2 1 noB [] [.mk 2 1 noB [] [.mk 1 0 noB [] []]]
theorem first : wyL sA sB = [xi1] ∧ wyE sA sB = 0:=by
 decide +kernel
end Go.Proofs.YtgecnlcbdbaneaaDoor
/- What is below, of trees; below.both's why tells it. -/
namespace Go.Proofs.YtgecnlcbdbaneaaDoor
open Go.RowKit Go.Sw
open _root_.List renaming mem_singleton → za, all_eq_true → zb, any_eq_true → ze, getElem?_eq_getElem → zf, mem_of_getElem? → zh

theorem xr1 {x y : ByteArray} (h : x.toList = y.toList) : x = y:=by
 rw [Lib.toList_data,Lib.toList_data] at h
 exact yw0 h
theorem ql5 {ls : List ByteArray} {x : ByteArray} : inL ls x = true ↔ x ∈ ls:=by
 unfold inL
 rw [ze]
 constructor
 · rintro ⟨b,hb,e⟩
   rw [xr1 (beq_iff_eq.1 e)];exact hb
 · intro h;exact ⟨x,h,beq_iff_eq.2 rfl⟩
def kid (l : List Tr) (i : Nat) : Tr:=l.getD i .cut
def vg8 (ls : List ByteArray) (l : List Tr) (x : ByteArray) : Tr:=kid l (ixL x ls).toNat
def qh7 : Nat → Tr → Tr → Prop
 | 0,_,_=>True
 | n + 1,.nd k so ls l,.nd k' so' ls' l'=>k = k' ∧ so = so' ∧
     (k = 2 ∨ k = 3 → qh7 n (kid l 0) (kid l' 0)) ∧
     (k = 4 → qh7 n (kid l' 0) (kid l 0) ∧ qh7 n (kid l 1) (kid l' 1)) ∧
     (k = 5 → qh7 n (kid l 0) (kid l' 0) ∧ qh7 n (kid l 1) (kid l' 1)) ∧
     (k = 6 → ∀ x ∈ ls',x ∈ ls ∧ qh7 n (vg8 ls l x) (vg8 ls' l' x)) ∧
     (¬ (k = 2 ∨ k = 3) → ¬ (k = 4 ∨ k = 5) → k ≠ 6 → ∀ x ∈ ls,x ∈ ls' ∧ qh7 n (vg8 ls l x) (vg8 ls' l' x))
 | _ + 1,.cut,.cut=>True
 | _ + 1,.cut,.nd _ _ _ _=>False
 | _ + 1,.nd _ _ _ _,.cut=>False
theorem vx0 : ∀ (n : Nat) (a : Tr),qh7 n a a
 | 0,_=>trivial
 | n + 1,.cut=>trivial
 | n + 1,.nd k so ls l=>by
  have h:=vx0 n
  exact ⟨rfl,rfl,fun _=>h _,fun _=>⟨h _,h _⟩,fun _=>⟨h _,h _⟩,fun _ x hx=>⟨hx,h _⟩,fun _ _ _ x hx=>⟨hx,h _⟩⟩
theorem vl3 : ∀ (n : Nat) (a b c : Tr),qh7 n a b → qh7 n b c → qh7 n a c
 | 0,_,_,_,_,_=>trivial
 | n + 1,.cut,.cut,.cut,_,_=>trivial
 | n + 1,.cut,.nd _ _ _ _,_,h,_=>h.elim
 | n + 1,.nd _ _ _ _,.cut,_,h,_=>h.elim
 | n + 1,.cut,.cut,.nd _ _ _ _,_,h=>h.elim
 | n + 1,.nd _ _ _ _,.nd _ _ _ _,.cut,_,h=>h.elim
 | n + 1,.nd k so ls l,.nd k' so' ls' l',.nd k'' so'' ls'' l'',h,h'=>by
  obtain ⟨rfl,rfl,h1,h2,h3,h4,h5⟩:=h
  obtain ⟨rfl,rfl,g1,g2,g3,g4,g5⟩:=h'
  have t:=vl3 n
  exact ⟨rfl,rfl,fun hk=>t _ _ _ (h1 hk) (g1 hk),fun hk=>⟨t _ _ _ (g2 hk).1 (h2 hk).1,t _ _ _ (h2 hk).2 (g2 hk).2⟩,
   fun hk=>⟨t _ _ _ (h3 hk).1 (g3 hk).1,t _ _ _ (h3 hk).2 (g3 hk).2⟩,
   fun hk x hx=>⟨(h4 hk x (g4 hk x hx).1).1,t _ _ _ (h4 hk x (g4 hk x hx).1).2 (g4 hk x hx).2⟩,
   fun ha hb hc x hx=>⟨(g5 ha hb hc x (h5 ha hb hc x hx).1).1,t _ _ _ (h5 ha hb hc x hx).2 (g5 ha hb hc x (h5 ha hb hc x hx).1).2⟩⟩
def yn7 (g h : List Nd) : Nat → Pr → Prop
 | 0,_=>True
 | n + 1,p => ∃ l,qx5 g h p = some l ∧ ∀ s ∈ l,yn7 g h n s.2
def tX (g h : List Nd) (n : Nat) (p : Pr) : Tr:=if p.t = true then obs h n p.b else obs g n p.a
def tY (g h : List Nd) (n : Nat) (p : Pr) : Tr:=if p.t = true then obs g n p.a else obs h n p.b
def lX (g h : List Nd) (n : Nat) (p : Pr) : List Tr:=(ndX g h p).to.map (obs (if p.t = true then h else g) n)
def lY (g h : List Nd) (n : Nat) (p : Pr) : List Tr:=(ndY g h p).to.map (obs (if p.t = true then g else h) n)
theorem tX_succ (g h : List Nd) (n : Nat) (p : Pr) : tX g h (n + 1) p = .nd (ndX g h p).k (ndX g h p).so (ndX g h p).ls (lX g h n p):=by
 obtain ⟨a,b,t⟩:=p
 cases t <;> rfl
theorem tY_succ (g h : List Nd) (n : Nat) (p : Pr) : tY g h (n + 1) p = .nd (ndY g h p).k (ndY g h p).so (ndY g h p).ls (lY g h n p):=by
 obtain ⟨a,b,t⟩:=p
 cases t <;> rfl
theorem kid_map {g : List Nd} {n : Nat} {to : List Int} {i : Nat} (h : i < to.length) : kid (to.map (obs g n)) i = obs g n (to.getD i 0):=by
 unfold kid
 simp [List.getD,zf h]
theorem toP_X {g h : List Nd} {p : Pr} {i k : Int} {t : Bool} (n : Nat) (hi : i.toNat < (ndX g h p).to.length) (hk : k.toNat < (ndY g h p).to.length) :
 tX g h n (toP g h p i k t) = (if t = true then kid (lY g h n p) k.toNat else kid (lX g h n p) i.toNat) ∧ tY g h n (toP g h p i k t) = (if t = true then kid (lX g h n p) i.toNat else kid (lY g h n p) k.toNat):=by
 have e1 : kid (lX g h n p) i.toNat = obs (if p.t = true then h else g) n ((ndX g h p).to.getD i.toNat 0):=kid_map hi
 have e2 : kid (lY g h n p) k.toNat = obs (if p.t = true then g else h) n ((ndY g h p).to.getD k.toNat 0):=kid_map hk
 rw [e1,e2]
 obtain ⟨a,b,u⟩:=p
 cases u <;> cases t <;> exact ⟨rfl,rfl⟩
theorem yb5 {g h : List Nd} (hg : ∀ n ∈ g,NdG g.length n) (hh : ∀ n ∈ h,NdG h.length n) {p : Pr} (a0 : 0 ≤ p.a) (a1 : p.a < (g.length : Int)) (b0 : 0 ≤ p.b) (b1 : p.b < (h.length : Int)) : yn3 (ndX g h p) ∧ yn3 (ndY g h p):=by
 unfold ndX ndY
 have h1:=(hg _ (qd0 a0 a1)).sh
 have h2:=(hh _ (qd0 b0 b1)).sh
 split
 · exact ⟨h2,h1⟩
 · exact ⟨h1,h2⟩
theorem qk8 {x : ByteArray} {ls : List ByteArray} (h : x ∈ ls) : 0 ≤ ixL x ls ∧ (ixL x ls).toNat < ls.length:=by
 have:=vc1 (s:=x.toList) (l:=ls) (j:=0) (by rw [ze];exact ⟨x,h,beq_iff_eq.2 rfl⟩)
 unfold ixL
 omega
theorem xx9 {g h : List Nd} (g0 : 0 < g.length) (h0 : 0 < h.length) (hg : ∀ n ∈ g,NdG g.length n) (hh : ∀ n ∈ h,NdG h.length n) : ∀ (n : Nat) (p : Pr),0 ≤ p.a → p.a < (g.length : Int) → 0 ≤ p.b → p.b < (h.length : Int) →
 (yn7 g h n p ↔ qh7 n (tX g h n p) (tY g h n p))
 | 0,p,_,_,_,_=>by simp [yn7,qh7]
 | n + 1, p,a0,a1,b0,b1=>by
  obtain ⟨sx,sy⟩:=yb5 hg hh a0 a1 b0 b1
  have st : ∀ (i k : Int) (t : Bool),i.toNat < (ndX g h p).to.length → k.toNat < (ndY g h p).to.length → (yn7 g h n (toP g h p i k t) ↔ if t = true then qh7 n (kid (lY g h n p) k.toNat) (kid (lX g h n p) i.toNat) else qh7 n (kid (lX g h n p) i.toNat) (kid (lY g h n p) k.toNat)):=fun i k t hi hk=>by
   have r:=xd1 g0 h0 hg hh a0 a1 b0 b1 i k t
   rw [xx9 g0 h0 hg hh n _ r.1.1 r.1.2 r.2.1 r.2.2,(toP_X n hi hk).1,(toP_X n hi hk).2]
   cases t <;> rfl
  rw [yn7,tX_succ,tY_succ,qh7]
  generalize lX g h n p = LX at *
  generalize lY g h n p = LY at *
  have fe : qx5 g h p = (if (ndX g h p).k ≠ (ndY g h p).k then none else if (ndX g h p).so ≠ (ndY g h p).so then none
   else if (ndX g h p).k = 2 ∨ (ndX g h p).k = 3 then some [(xi1,toP g h p 0 0 false)]
   else if (ndX g h p).k = 4 ∨ (ndX g h p).k = 5 then some [(hatS,toP g h p 0 0 ((ndX g h p).k == 4)),(xi1,toP g h p 1 1 false)]
   else if (yi8 (ndX g h p) (ndY g h p)).all (fun l=>inL (xf6 (ndX g h p) (ndY g h p)) l) = true then some ((yi8 (ndX g h p) (ndY g h p)).map fun l=>(l,toP g h p (ixL l (ndX g h p).ls) (ixL l (ndY g h p).ls) false)) else none):=rfl
  rw [fe]
  clear fe
  generalize ndX g h p = X at *
  generalize ndY g h p = Y at *
  obtain ⟨x1,x2,x3,x6⟩:=sx
  obtain ⟨y1,y2,y3,y6⟩:=sy
  by_cases hk : X.k = Y.k
  rotate_left
  · rw [if_pos hk]
    exact ⟨fun ⟨l,hl,_⟩=>(by cases hl),fun hs=>absurd hs.1 hk⟩
  rw [if_neg (by simpa using hk)]
  by_cases hs : X.so = Y.so
  rotate_left
  · rw [if_pos hs]
    exact ⟨fun ⟨l,hl,_⟩=>(by cases hl),fun h=>absurd h.2.1 hs⟩
  rw [if_neg (by simpa using hs)]
  by_cases h23 : X.k = 2 ∨ X.k = 3
  · rw [if_pos h23]
    have e:=st 0 0 false (by have:=x1 h23;omega) (by have:=y1 (hk ▸ h23);omega)
    constructor
    · rintro ⟨l,hl,hb⟩
      cases hl
      have:=e.1 (hb (xi1,toP g h p 0 0 false) (by simp))
      exact ⟨hk,hs,fun _=>this,fun h=>by omega,fun h=>by omega,fun h=>by omega,fun h=>absurd h23 h⟩
    · rintro ⟨-, -,h1, -⟩
      refine ⟨_,rfl,fun s hs=>?_⟩
      rw [za] at hs
      subst hs
      exact e.2 (h1 h23)
  rw [if_neg h23]
  by_cases h45 : X.k = 4 ∨ X.k = 5
  · rw [if_pos h45]
    have xl:=x2 h45
    have yl:=y2 (hk ▸ h45)
    have e1:=st 0 0 (X.k == 4) (by omega) (by omega)
    have e2:=st 1 1 false (by show 1 < _;omega) (by show 1 < _;omega)
    rw [if_neg (by decide)] at e2
    constructor
    · rintro ⟨l,hl,hb⟩
      cases hl
      have q1:=e1.1 (hb (hatS,toP g h p 0 0 (X.k == 4)) (by simp))
      have q2:=e2.1 (hb (xi1,toP g h p 1 1 false) (by simp))
      refine ⟨hk,hs,fun h=>absurd h h23,fun h=>?_,fun h=>?_,fun h=>by omega,fun _ h=>absurd h45 h⟩
      · rw [if_pos (by simpa using h)] at q1;exact ⟨q1,q2⟩
      · rw [if_neg (by simp;omega)] at q1;exact ⟨q1,q2⟩
    · rintro ⟨-, -, -,h1,h2, -⟩
      refine ⟨_,rfl,fun s hs=>?_⟩
      rcases List.mem_cons.1 hs with rfl | hs
      · refine e1.2 ?_
        rcases h45 with h4 | h5
        · rw [if_pos (by simpa using h4)];exact (h1 h4).1
        · rw [if_neg (by simp;omega)];exact (h2 h5).1
      · rw [za] at hs
        subst hs
        refine e2.2 ?_
        rcases h45 with h4 | h5
        · exact (h1 h4).2
        · exact (h2 h5).2
  rw [if_neg h45]
  have lab : ∀ l : ByteArray,l ∈ X.ls → l ∈ Y.ls → (yn7 g h n (toP g h p (ixL l X.ls) (ixL l Y.ls) false) ↔ qh7 n (vg8 X.ls LX l) (vg8 Y.ls LY l)):=fun l hX hY=>by
   have r1:=qk8 hX
   have r2:=qk8 hY
   have:=st (ixL l X.ls) (ixL l Y.ls) false (by omega) (by omega)
   rw [if_neg (by decide)] at this
   exact this
  by_cases h6 : X.k = 6
  · have ef : yi8 X Y = Y.ls:=by unfold yi8;rw [if_pos h6]
    have em : xf6 X Y = X.ls:=by unfold xf6;rw [if_pos h6]
    rw [ef,em]
    constructor
    · rintro ⟨l,hl,hb⟩
      split at hl
      · rename_i ha
        rw [zb] at ha
        cases hl
        refine ⟨hk,hs,fun h=>absurd h h23,fun h=>by omega,fun h=>by omega,fun _ x hx=>?_,fun _ _ h=>absurd h6 h⟩
        have hX:=ql5.1 (ha x hx)
        exact ⟨hX,(lab x hX hx).1 (hb _ (List.mem_map.2 ⟨x,hx,rfl⟩))⟩
      · cases hl
    · rintro ⟨-, -, -, -, -,h1, -⟩
      have h1:=h1 h6
      rw [if_pos (by rw [zb];exact fun x hx=>ql5.2 (h1 x hx).1)]
      refine ⟨_,rfl,fun s hs=>?_⟩
      obtain ⟨x,hx,rfl⟩:=List.mem_map.1 hs
      exact (lab x (h1 x hx).1 hx).2 (h1 x hx).2
  · have ef : yi8 X Y = X.ls:=by unfold yi8;rw [if_neg h6]
    have em : xf6 X Y = Y.ls:=by unfold xf6;rw [if_neg h6]
    rw [ef,em]
    constructor
    · rintro ⟨l,hl,hb⟩
      split at hl
      · rename_i ha
        rw [zb] at ha
        cases hl
        refine ⟨hk,hs,fun h=>absurd h h23,fun h=>by omega,fun h=>by omega,fun h=>absurd h h6,fun _ _ _ x hx=>?_⟩
        have hY:=ql5.1 (ha x hx)
        exact ⟨hY,(lab x hx hY).1 (hb _ (List.mem_map.2 ⟨x,hx,rfl⟩))⟩
      · cases hl
    · rintro ⟨-, -, -, -, -, -,h1⟩
      have h1:=h1 h23 h45 h6
      rw [if_pos (by rw [zb];exact fun x hx=>ql5.2 (h1 x hx).1)]
      refine ⟨_,rfl,fun s hs=>?_⟩
      obtain ⟨x,hx,rfl⟩:=List.mem_map.1 hs
      exact (lab x hx (h1 x hx).1).2 (h1 x hx).2
def allB (g h : List Nd) (p : Pr) : Prop := ∀ n,yn7 g h n p
theorem yb9 {g h : List Nd} {p : Pr} (hp : allB g h p) : ∃ l,qx5 g h p = some l ∧ ∀ s ∈ l,allB g h s.2:=by
 obtain ⟨l,hl, -⟩:=hp 1
 refine ⟨l,hl,fun s hs n=>?_⟩
 obtain ⟨l',hl',h'⟩:=hp (n + 1)
 rw [hl] at hl'
 cases hl'
 exact h' s hs
theorem xo1 {Q : Pr → Prop} (path : List ByteArray) : ∀ (l : List (ByteArray × Pr)) (qu : Qu),(∀ q ∈ qu,Q q.1) → (∀ s ∈ l,Q s.2) → ∀ q ∈ l.foldl (qw5 path) qu,Q q.1
 | [],qu,h,_=>h
 | s :: l, qu,h,hl=>xo1 path l (qw5 path qu s) (by
     intro q hq
     unfold qw5 at hq
     split at hq
     · exact h q hq
     · rcases List.mem_append.1 hq with hq | hq
       · exact h q hq
       · rw [za] at hq
         subst hq
         exact hl s (by simp)) fun x hx=>hl x (by simp [hx])
theorem xd9 {g h : List Nd} : ∀ (f at' : Nat) (qu : Qu),(∀ q ∈ qu,allB g h q.1) → ys7 g h f at' qu = none
 | 0,_,_,_=>rfl
 | f + 1,at',qu,hq=>by
  unfold ys7
  cases hx : qu[at']? with
  | none=>rfl
  | some q =>
   obtain ⟨p,path⟩:=q
   obtain ⟨l,hl,hs⟩:=yb9 (hq _ (zh hx))
   simp only at hl
   simp only [hl]
   exact xd9 f _ _ (xo1 path l qu hq hs)
theorem xm4 (path : List ByteArray) : ∀ (l : List (ByteArray × Pr)) (qu : Qu),(∀ p,vo0 p qu = true → vo0 p (l.foldl (qw5 path) qu) = true) ∧ ∀ s ∈ l,vo0 s.2 (l.foldl (qw5 path) qu) = true
 | [],qu=>⟨fun _ h=>h,fun s hs=>by cases hs⟩
 | s :: l,qu=>by
  have ih:=xm4 path l (qw5 path qu s)
  have h1 : ∀ p,vo0 p qu = true → vo0 p (qw5 path qu s) = true:=fun p hp=>by
   unfold qw5
   split
   · exact hp
   · rw [vn6] at hp ⊢
     rw [List.map_append];exact List.mem_append_left _ hp
  have h2 : vo0 s.2 (qw5 path qu s) = true:=by
   unfold qw5
   split
   · rename_i h;exact h
   · rw [vn6];simp
  refine ⟨fun p hp=>ih.1 p (h1 p hp),fun x hx=>?_⟩
  rcases List.mem_cons.1 hx with rfl | hx
  · exact ih.1 _ h2
  · exact ih.2 x hx
theorem vm0 {g h : List Nd} (hok : ye3 g h) : ∀ (f at' : Nat) (qu : Qu),QI g.length h.length qu → at' ≤ qu.length → 2 * g.length * h.length + 1 ≤ at' + f →
 (∀ (i : Nat) (q : Pr × List ByteArray),i < at' → qu[i]? = some q → ∃ l,qx5 g h q.1 = some l ∧ ∀ s ∈ l,vo0 s.2 qu = true) → ys7 g h f at' qu = none →
 ∃ qu' : Qu,(∀ p,vo0 p qu = true → vo0 p qu' = true) ∧ ∀ p,vo0 p qu' = true → ∃ l,qx5 g h p = some l ∧ ∀ s ∈ l,vo0 s.2 qu' = true
 | 0,at',qu,hq,ha,hf,hc,hw=>by
  have:=hq.len
  omega
 | f + 1, at',qu,hq,ha,hf,hc,hw=>by
  unfold ys7 at hw
  cases hx : qu[at']? with
  | none =>
   have : qu.length ≤ at':=by simpa using hx
   refine ⟨qu,fun _ h=>h,fun p hp=>?_⟩
   rw [vn6] at hp
   obtain ⟨q,hq,rfl⟩:=List.mem_map.1 hp
   obtain ⟨i,hi,rfl⟩:=List.mem_iff_getElem.1 hq
   exact hc i _ (by omega) (zf hi)
  | some q =>
   obtain ⟨p,path⟩:=q
   rw [hx] at hw
   simp only at hw
   have hlt:=(List.getElem?_eq_some_iff.1 hx).1
   have hp:=hq.p at' _ hx
   have hr:=hq.r _ (zh hx)
   simp only at hr hp
   cases hF : qx5 g h p with
   | none=>rw [hF] at hw;cases hw
   | some l =>
    rw [hF] at hw
    simp only at hw
    have hl:=vh3 path l qu
    have hh:=xm4 path l qu
    obtain ⟨qu',h1,h2⟩:=vm0 hok f (at' + 1) (l.foldl (qw5 path) qu) (QI.adds hp hq hlt ((hok p hr.1.1 hr.1.2 hr.2.1 hr.2.2).2.2 l hF)) (by omega) (by omega) (fun i q hi hqi=>by
     rw [hl.2 i (by omega)] at hqi
     by_cases he : i = at'
     · subst he
       rw [hx] at hqi
       cases hqi
       exact ⟨l,hF,hh.2⟩
     · obtain ⟨l',e1,e2⟩:=hc i q (by omega) hqi
       exact ⟨l',e1,fun s hs=>hh.1 _ (e2 s hs)⟩) hw
    exact ⟨qu',fun p hp=>h1 p (hh.1 p hp),h2⟩
theorem why_iff {g h : List Nd} (g0 : 0 < g.length) (h0 : 0 < h.length) (hg : ∀ n ∈ g,NdG g.length n) (hh : ∀ n ∈ h,NdG h.length n) : yf2 g h = none ↔ ∀ n,qh7 n (obs g n 0) (obs h n 0):=by
 have key : ∀ n,yn7 g h n ⟨0,0,false⟩ ↔ qh7 n (obs g n 0) (obs h n 0):=fun n=>xx9 g0 h0 hg hh n ⟨0,0,false⟩ (by decide) (by simp only;omega) (by decide) (by simp only;omega)
 constructor
 · intro hw n
   rw [← key]
   unfold yf2 at hw
   obtain ⟨qu,h1,h2⟩:=vm0 (yc9 g0 h0 hg hh) _ 0 [(⟨0,0,false⟩,[])] ⟨by simp,by simp;omega,fun i q h=>by
    cases i with
    | zero=>simp at h;subst h;simp
    | succ i=>simp at h⟩ (by simp) (by omega) (fun i q hi=>by omega) hw
   have : ∀ (n : Nat) (p : Pr),vo0 p qu = true → yn7 g h n p:=fun n=>by
    induction n with
    | zero=>intro p _;trivial
    | succ n ih =>
     intro p hp
     obtain ⟨l,e1,e2⟩:=h2 p hp
     exact ⟨l,e1,fun s hs=>ih _ (e2 s hs)⟩
   exact this n _ (h1 _ (by rw [vn6];simp))
 · intro hs
   unfold yf2
   refine xd9 _ _ _ fun q hq=>?_
   rw [za] at hq
   subst hq
   intro n
   exact (key n).2 (hs n)
end Go.Proofs.YtgecnlcbdbaneaaDoor
