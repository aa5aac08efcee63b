/- comply.meets at a choice; a symbolic walk. -/
-- TYPESB
import Derived.Test.YtgecnlcbdbaneaaDoorH17
import Derived.Test.YtgecnlcbdbaneaaDoorHQ5
set_option linter.unusedVariables false
set_option linter.unusedSimpArgs false
namespace Go.Proofs.YtgecnlcbdbaneaaDoor
open Go.RowKit Go.Sw
open _root_.List renaming length_map → za, nil_append → zb, cons_append → ze, take_add_one → zn, getD → zo, take_zero → zw, map_nil → zx, mem_of_getElem? → zy, drop_eq_getElem_cons → za1, all_cons → zb1, drop_of_length_le → zc1, take_of_length_le → zd1
open _root_.Bool renaming not_true → zf, not_false → zh, true_and → zq
open _root_.Int renaming reduceBEq → zi, toNat_natCast → zm
open Nat renaming reduceAdd → zn2

structure Pc where
 a : Int
 b : Int
deriving DecidableEq
def Pc.d (p : Pc) : D:=.agg [iD p.a,iD p.b]
def yw3 (g h : List Nd) : Bool:=(yf2 g h).isNone
def xd0 (g h : List Nd) (x y : Nd) : Bool:=if x.k = 5 then yw3 (atP h (y.to.getD 0 0)) (atP g (x.to.getD 0 0)) else yw3 (atP g (x.to.getD 0 0)) (atP h (y.to.getD 0 0))
def ym8 (x y : Nd) : List ByteArray:=if x.k = 7 then y.ls else x.ls
def inL2 (x y : Nd) : List ByteArray:=if x.k = 7 then x.ls else y.ls
def lPc (x y : Nd) (l : ByteArray) : ByteArray × Pc:=(l,⟨x.to.getD (ixL l x.ls).toNat 0,y.to.getD (ixL l y.ls).toNat 0⟩)
def qq0 (g h : List Nd) (p : Pc) : Option (List (ByteArray × Pc)) :=
 if (gAt h p.b).k ≠ qg4 (gAt g p.a).k then none else if (gAt g p.a).so ≠ (gAt h p.b).so then none
 else if (gAt g p.a).k = 2 ∨ (gAt g p.a).k = 3 then some [(xi1,⟨(gAt g p.a).to.getD 0 0,(gAt h p.b).to.getD 0 0⟩)]
 else if (gAt g p.a).k = 4 ∨ (gAt g p.a).k = 5 then (if xd0 g h (gAt g p.a) (gAt h p.b) = true then some [(xi1,⟨(gAt g p.a).to.getD 1 0,(gAt h p.b).to.getD 1 0⟩)] else none)
 else if (gAt g p.a).k = 6 ∨ (gAt g p.a).k = 7 then (if (ym8 (gAt g p.a) (gAt h p.b)).all (fun l=>inL (inL2 (gAt g p.a) (gAt h p.b)) l) = true then some ((ym8 (gAt g p.a) (gAt h p.b)).map (lPc (gAt g p.a) (gAt h p.b))) else none)
 else some []
def qs5 (r : Option (List (ByteArray × Pc))) : D:=match r with | some l=>.tup [.slc (l.map fun q=>sD q.1),.slc (l.map fun q=>q.2.d),bD true] | none=>.tup [.slc [],.slc [],bD false]
theorem xj9 (g : List Nd) (k : Int) : (atP g k).length = g.length:=by simp [atP]
theorem xl1 {g : List Nd} {k : Int} (h0 : 0 < g.length) (hk : 0 ≤ k ∧ k < (g.length : Int)) (hg : ∀ n ∈ g,NdG g.length n) (hs : ShG g) : (∀ n ∈ atP g k,NdG (atP g k).length n) ∧ ShG (atP g k):=by
 have key : ∀ n ∈ atP g k, ∃ m ∈ g,n = ⟨m.k,m.so,m.ls,m.to.map (swI k)⟩:=fun n hn=>by
  obtain ⟨i,hi,rfl⟩:=List.mem_map.1 hn
  have hi:=List.mem_range.1 hi
  have hr:=qt9 h0 hk (i:=(i : Int)) ⟨by omega,by omega⟩
  exact ⟨_,qd0 hr.1 hr.2,rfl⟩
 constructor
 · intro n hn
   obtain ⟨m,hm,rfl⟩:=key n hn
   have gm:=hg m hm
   rw [xj9]
   refine ⟨⟨gm.ok.k,gm.ok.so,gm.ok.ls,gm.ok.lb,by simp only [za];exact gm.ok.to,fun t ht=>?_⟩,⟨fun h=>by simp only [za];exact gm.sh.one h,fun h=>by simp only [za];exact gm.sh.two h,by simp only [za];exact gm.sh.ls,gm.sh.l6⟩,gm.nm⟩
   obtain ⟨u,hu,rfl⟩:=List.mem_map.1 ht
   exact qt9 h0 hk (gm.ok.r u hu)
 · intro n hn
   obtain ⟨m,hm,rfl⟩:=key n hn
   simp only [za]
   exact hs m hm
theorem xi5 {g : List Nd} {k : Int} (h0 : 0 < g.length) (hk : 0 ≤ k ∧ k < (g.length : Int)) (hg : ∀ n ∈ g,NdG g.length n) : ∀ (n : Nat) (i : Int),0 ≤ i → i < (g.length : Int) → obs (atP g k) n i = obs g n (swI k i)
 | 0,_,_,_=>rfl
 | n + 1,i,i0,i1=>by
  have hr:=qt9 h0 hk ⟨i0,i1⟩
  have e : gAt (atP g k) i = xx4 g k i.toNat:=by
   unfold gAt atP
   rw [List.getD_eq_getElem?_getD,List.getElem?_map,List.getElem?_range (by omega)]
   rfl
  rw [obs,obs,e]
  unfold xx4
  rw [show ((i.toNat : Nat) : Int) = i by omega]
  simp only [List.map_map]
  congr 1
  apply List.map_congr_left
  intro t ht
  have hm:=(hg _ (qd0 hr.1 hr.2)).ok.r t ht
  have h1:=qt9 h0 hk hm
  simp only [Function.comp]
  rw [xi5 h0 hk hg n (swI k t) h1.1 h1.2]
  congr 1
  unfold swI
  by_cases a : t = 0
  · rw [if_pos a]
    by_cases b : k = 0
    · rw [if_pos b,a,b]
    · rw [if_neg b,if_pos rfl,a]
  · rw [if_neg a]
    by_cases b : t = k
    · rw [if_pos b,if_pos rfl,b]
    · rw [if_neg b,if_neg a,if_neg b]
theorem Gd.at {g : List Nd} (h : Gd g) {k : Int} (hk : 0 ≤ k ∧ k < (g.length : Int)) : Gd (atP g k) :=
 ⟨by rw [xj9];exact h.pos,by rw [xj9];exact h.le,(xl1 h.pos hk h.ok h.sh).1,(xl1 h.pos hk h.ok h.sh).2⟩
theorem vs6 (Γ : Gl) {a b : List Nd} (ha : Gd a) (hb : Gd b) : DFn Tryd.prog Γ 25 [.slc (a.map Nd.d),.slc (b.map Nd.d)] (.tup [bD (yw3 a b),iD 0]):=yl2 Γ a b ha.pos hb.pos ha.le hb.le ha.ok hb.ok ha.sh hb.sh
theorem yy4 (Γ : Gl) {g : List Nd} (h : Gd g) {k : Int} (hk : 0 ≤ k ∧ k < (g.length : Int)) : DFn Tryd.prog Γ 73 [.slc (g.map Nd.d),iD k] (.slc ((atP g k).map Nd.d)):=at_fn Γ g k (by have:=h.le;omega) h.pos hk h.ok
set_option maxHeartbeats 16000000 in
set_option maxRecDepth 100000 in
theorem xw3 (Γ : Gl) (g h : List Nd) (a b : Int) (ha0 : 0 ≤ a) (ha1 : a < (g.length : Int)) (hb0 : 0 ≤ b) (hb1 : b < (h.length : Int)) (xk xso : Int) (xls : List ByteArray) (xto : List Int) (yk yso : Int) (yls : List ByteArray) (yto : List Int)
 (hXe : gAt g a = ⟨xk,xso,xls,xto⟩) (hYe : gAt h b = ⟨yk,yso,yls,yto⟩) (hX3 : xls.length ≤ xto.length) (hY3 : yls.length ≤ yto.length) (hX6 : xls.length ≤ 6) (hY6 : yls.length ≤ 6) (hkk : yk = qg4 xk) (hss : xso = yso) (h67 : xk = 6 ∨ xk = 7) (R : Option (List (ByteArray × Pc)))
 (hR : (if (ym8 ⟨xk,xso,xls,xto⟩ ⟨yk,yso,yls,yto⟩).all (fun l=>inL (inL2 ⟨xk,xso,xls,xto⟩ ⟨yk,yso,yls,yto⟩) l) = true then some ((ym8 ⟨xk,xso,xls,xto⟩ ⟨yk,yso,yls,yto⟩).map (lPc ⟨xk,xso,xls,xto⟩ ⟨yk,yso,yls,yto⟩)) else none) = R) :
 DFn Tryd.prog Γ 58 [.slc (g.map Nd.d),.slc (h.map Nd.d),.agg [iD a,iD b]] (qs5 R):=by
 have hga:=qq3 ha0 ha1
 have hgb:=qq3 hb0 hb1
 rw [hXe] at hga
 rw [hYe] at hgb
 simp only [Nd.d] at hga hgb
 have hk:=yg4 Γ xk
 have q0 : ∀ (l : List Int) (i : Nat),i < l.length → (l.map iD).getD i default = iD (l.getD i 0):=fun l i hi=>by simp [zo,hi]
 have gk : (yk != qg4 xk) = false:=by simpa using hkk
 have gs : (xso != yso) = false:=by simpa using hss
 obtain ⟨lP,hlP⟩ : ∃ lP : ByteArray → Pc,lP = fun l=>⟨xto.getD (ixL l xls).toNat 0,yto.getD (ixL l yls).toNat 0⟩:=⟨_,rfl⟩
 have hlp : lPc ⟨xk,xso,xls,xto⟩ ⟨yk,yso,yls,yto⟩ = fun l=>(l,lP l):=by rw [hlP];rfl
 rw [hlp] at hR
 unfold ym8 inL2 at hR
 simp only at hR
 refine qa4 (N:=152) Tryd.func58 rfl (by decide) rfl rfl (by simp) (fun C h0=>?_)
 simp only [qj1]
 repeat' (first|(with_reducible apply zz1)|((with_reducible apply zz2);rfl;intro K' hK';simp only [WB,simprocAttr];(repeat (constructor;focus (clear hK';intros;simp_all;done)));(try (apply hK';clear hK' K')))|((with_reducible apply zz3);rfl;all_goals (intro h;try exact absurd h (by decide))))
 (with_reducible refine qa6 ?_ ?_ ?_ (⟨⟨[],[]⟩,[],[],[],[]⟩) _ rfl (fun K' hK' gops fin hgops hfin=>?_)
  · kernel_rfl
  · rfl
  · rfl
  repeat' first
   | (refine qa9 rfl trivial (by simp only [WB,simprocAttr,UX,UA];rfl) (by simp only [zb,ze];rfl) (by simp only [zn2];rfl) ?_)
   | (refine qa8 rfl rfl trivial (by simp only [WB,simprocAttr,UX,UA,ha0,ha1,hb0,hb1,hga,hgb,za ];rfl) ?_ (by simp only [WB,simprocAttr,UX,UA];rfl) (by simp only [WB,simprocAttr,UX,UA];rfl) (by simp only [zb,ze];rfl) (by simp only [zn2];rfl) ?_;focus (first | trivial | ((repeat' constructor) <;> first | trivial | assumption | (clear hK' hfin hgops;intros;simp_all;done))))
  (refine qb5 (by subst hfin;kernel_rfl) ?_)
  clear hfin hgops fin gops
  (try (apply hK';clear hK' K')))
 repeat' (first|(with_reducible apply zz1)|((with_reducible apply zz2);rfl;intro K' hK';simp only [WB,simprocAttr];(repeat (constructor;focus (clear hK';intros;simp_all;done)));(try (apply hK';clear hK' K')))|((with_reducible apply zz3);rfl;all_goals (intro h;try exact absurd h (by decide))))
 (with_reducible refine qi1 ?_ ?_ ?_ ( [(4,iD (qg4 xk))]) (fun K' hK'=>?_)
  · kernel_rfl
  · rfl
  · rfl
  simp only [WB,simprocAttr,UG,hk,gk,gs,zf,zh,zq,Bool.false_and,false_implies,cond_true,cond_false ]
  (try (apply hK';clear hK' K')))
 rcases h67 with rfl | rfl
 · simp only [if_neg (show ¬ (6 : Int) = 7 by decide)] at hR
   repeat' (first|(with_reducible apply zz1)|((with_reducible apply zz2);rfl;intro K' hK';simp only [WB,simprocAttr,zi];(repeat (constructor;focus (clear hK';intros;simp_all;done)));(try (apply hK';clear hK' K')))|((with_reducible apply zz3);rfl;all_goals (intro h;try exact absurd h (by decide))))
   (with_reducible refine qa6 ?_ ?_ ?_ (⟨⟨[],[]⟩,[],[],[],[]⟩) _ rfl (fun K' hK' gops fin hgops hfin=>?_)
    · kernel_rfl
    · rfl
    · rfl
    repeat' first
     | (refine qa9 rfl trivial (by simp only [WB,simprocAttr,UX,UA];rfl) (by simp only [zb,ze];rfl) (by simp only [zn2];rfl) ?_)
     | (refine qa8 rfl rfl trivial (by simp only [WB,simprocAttr,UX,UA,za ];rfl) ?_ (by simp only [WB,simprocAttr,UX,UA];rfl) (by simp only [WB,simprocAttr,UX,UA];rfl) (by simp only [zb,ze];rfl) (by simp only [zn2];rfl) ?_;focus (first | trivial | ((repeat' constructor) <;> first | trivial | assumption | (clear hK' hfin hgops;intros;simp_all;done))))
    (refine qb5 (by subst hfin;kernel_rfl) ?_)
    clear hfin hgops fin gops
    (try (apply hK';clear hK' K')))
   repeat' (first|(with_reducible apply zz1)|((with_reducible apply zz2);rfl;intro K' hK';simp only [WB,simprocAttr,zi,za];(repeat (constructor;focus (clear hK';intros;simp_all;done)));(try (apply hK';clear hK' K')))|((with_reducible apply zz3);rfl;all_goals (intro h;try exact absurd h (by decide))))
   refine qm9 6 20 1 rfl rfl (by decide) ?_
   simp only [WB,simprocAttr]
   refine qm9 7 21 2 rfl rfl (by decide) ?_
   simp only [WB,simprocAttr]
   refine qd3 (α := Nat) (fun j=>[(9,.ref 11 0),(10,.ref 12 0),(18,.ref 16 0),(6,.own 20),(7,.own 21),(114,.d (.slc (xls.map sD))),(115,.d (iD xls.length)),(116,.d (iD j))])
    (fun j=>[(11,.cells [.d (iD 6),.d (iD xso),.d (.slc (xls.map sD)),.d (.slc (xto.map iD))]),(12,.cells [.d (iD yk),.d (iD yso),.d (.slc (yls.map sD)),.d (.slc (yto.map iD))]),(16,.cells [.d (iD yk),.d (iD yso),.d (.slc (yls.map sD)),.d (.slc (yto.map iD))]),(20,.row 1 ((xls.take j).map sD)),(21,.row 2 ((xls.take j).map fun l=>(lP l).d))])
    (fun j=>j ≤ xls.length ∧ (xls.all (fun l=>inL yls l) = (xls.drop j).all (fun l=>inL yls l))) (fun j=>xls.length - j) 0 ⟨Nat.zero_le _,rfl⟩ (by refine qa3 h0 ?_ ?_ ?_ <;> simp only [US,WB,simprocAttr,zw,zx]) (fun j hj=>?_)
   obtain ⟨hj,hch⟩:=hj
   have hj0 : (0 : Int) ≤ (j : Int):=by omega
   by_cases hlt : j < xls.length
   · obtain ⟨x,hx⟩ : ∃ x,xls[j]? = some x:=⟨xls[j],by simp [hlt]⟩
     have hxm:=zy hx
     have hxg : (xls.map sD).getD j default = sD x:=by simp [zo,hx]
     have hj1 : (j : Int) < (xls.length : Int):=by omega
     have hw2 : IntKind.i64.wrap ((j : Int) + 1) = ((j + 1 : Nat) : Int):=by rw [qd7 (by omega) (by omega)];omega
     have hd : xls.drop j = x :: xls.drop (j + 1):=by
      obtain ⟨h1,h2⟩:=List.getElem?_eq_some_iff.1 hx
      rw [za1 h1,h2]
     rw [hd,zb1] at hch
     have hct : DFn Tryd.prog Γ 62 [.slc (yls.map sD),sD x] (.v (.bool (inL yls x))):=qj7 Γ yls x (by omega)
     cases hin : inL yls x with
     | false =>
      rw [hin] at hct
      have hall : xls.all (fun l=>inL yls l) = false:=by rw [hch,hin];rfl
      rw [hall] at hR
      rw [if_neg (by decide)] at hR
      subst hR
      repeat' (first|(with_reducible apply zz1)|((with_reducible apply zz2);rfl;intro K' hK';simp only [WB,simprocAttr,zm,hxg,hj0,hj1,za];(repeat (constructor;focus (clear hK';intros;simp_all;done)));(try (apply hK';clear hK' K')))|((with_reducible apply zz3);rfl;all_goals (intro h;try exact absurd h (by decide))))
      refine qb1 rfl (by simp only [WB,simprocAttr]) rfl rfl (hct) ?_
      simp only [WB,simprocAttr,inX,qc7,zf,zh,cond_true,cond_false]
      (repeat (constructor;focus (clear hK';intros;simp_all;done)))
      (try (apply hK';clear hK' K'))
      repeat' (first|(with_reducible apply zz1)|((with_reducible apply zz2);rfl;intro K' hK';simp only [WB,simprocAttr];(repeat (constructor;focus (clear hK';intros;simp_all;done)));(try (apply hK';clear hK' K')))|((with_reducible apply zz3);rfl;all_goals (intro h;try exact absurd h (by decide))))
      simp only [qf7,qd5,qa2,qd6,WB,simprocAttr,qs5]
     | true =>
      rw [hin] at hct
      rw [hin,zq] at hch
      have hxx : x ∈ xls:=hxm
      have hxy : x ∈ yls:=ql5.1 hin
      have rx:=qk8 hxx
      have ry:=qk8 hxy
      have hI : DFn Tryd.prog Γ 34 [.slc (xls.map sD),sD x] (iD (ixL x xls)):=qm5 Γ xls x (by omega)
      have hJ : DFn Tryd.prog Γ 34 [.slc (yls.map sD),sD x] (iD (ixL x yls)):=qm5 Γ yls x (by omega)
      have qx:=q0 xto (ixL x xls).toNat (by omega)
      have qy:=q0 yto (ixL x yls).toNat (by omega)
      have i0:=rx.1
      have k0:=ry.1
      have i1 : ixL x xls < (xto.length : Int):=by omega
      have k1 : ixL x yls < (yto.length : Int):=by omega
      have hm1 : (xls.take j).map sD ++ [sD x] = (xls.take (j + 1)).map sD:=by rw [zn,hx];simp
      have hm2 : (xls.take j).map (fun l=>(lP l).d) ++ [.agg [iD (xto.getD (ixL x xls).toNat 0),iD (yto.getD (ixL x yls).toNat 0)]] = (xls.take (j + 1)).map fun l=>(lP l).d:=by rw [zn,hx];simp [hlP,Pc.d]
      have hl1 : ((xls.take j).map sD).length = j:=by simp;omega
      have hl2 : ((xls.take j).map fun l=>(lP l).d).length = j:=by simp;omega
      obtain ⟨A1,hA1⟩ : ∃ A,(xls.take j).map sD = A:=⟨_,rfl⟩
      obtain ⟨A2,hA2⟩ : ∃ A,((xls.take j).map fun l=>(lP l).d) = A:=⟨_,rfl⟩
      rw [hA1] at hm1 hl1 ⊢
      rw [hA2] at hm2 hl2 ⊢
      have hn5 : (j + 1) * 16 ≤ 140737488355328:=by omega
      have hn6 : j + 1 ≤ maxLen:=by unfold maxLen;omega
      generalize xto.getD (ixL x xls).toNat 0 = XV at *
      generalize yto.getD (ixL x yls).toNat 0 = YV at *
      generalize ixL x xls = IX at *
      generalize ixL x yls = IY at *
      repeat' (first|(with_reducible apply zz1)|((with_reducible apply zz2);rfl;intro K' hK';simp only [WB,simprocAttr,zm,hxg,hj0,hj1,za];(repeat (constructor;focus (clear hK';intros;simp_all;done)));(try (apply hK';clear hK' K')))|((with_reducible apply zz3);rfl;all_goals (intro h;try exact absurd h (by decide))))
      refine qb1 rfl (by simp only [WB,simprocAttr]) rfl rfl (hct) ?_
      simp only [WB,simprocAttr,inX,qc7,zf,zh,cond_true,cond_false]
      (repeat (constructor;focus (clear hK';intros;simp_all;done)))
      (try (apply hK';clear hK' K'))
      repeat' (first|(with_reducible apply zz1)|((with_reducible apply zz2);rfl;intro K' hK';simp only [WB,simprocAttr,hl1,hn5,hn6,hm1];(repeat (constructor;focus (clear hK';intros;simp_all;done)));(try (apply hK';clear hK' K')))|((with_reducible apply zz3);rfl;all_goals (intro h;try exact absurd h (by decide))))
      (with_reducible refine qa6 ?_ ?_ ?_ (⟨⟨[(6,iD IX),(14,iD IY)],[]⟩,[],[],[],[]⟩) _ rfl (fun K' hK' gops fin hgops hfin=>?_)
       · kernel_rfl
       · rfl
       · rfl
       repeat' first
        | (refine qa9 rfl trivial (by simp only [WB,simprocAttr,UX,UA];rfl) (by simp only [zb,ze];rfl) (by simp only [zn2];rfl) ?_)
        | (refine qa8 rfl rfl trivial (by simp only [WB,simprocAttr,UX,UA,hI,hJ,i0,i1,k0,k1,qx,qy,hl2,hn5,hn6,hm2,za ];rfl) ?_ (by simp only [WB,simprocAttr,UX,UA];rfl) (by simp only [WB,simprocAttr,UX,UA];rfl) (by simp only [zb,ze];rfl) (by simp only [zn2];rfl) ?_;focus (first | trivial | ((repeat' constructor) <;> first | trivial | assumption | (clear hK' hfin hgops;intros;simp_all;done))))
       (refine qb5 (by subst hfin;kernel_rfl) ?_)
       clear hfin hgops fin gops
       (try (apply hK';clear hK' K')))
      repeat' (first|(with_reducible apply zz1)|((with_reducible apply zz2);rfl;intro K' hK';simp only [WB,simprocAttr,hw2];(repeat (constructor;focus (clear hK';intros;simp_all;done)));(try (apply hK';clear hK' K')))|((with_reducible apply zz3);rfl;all_goals (intro h;try exact absurd h (by decide))))
      refine ⟨j + 1,⟨(by show j + 1 ≤ xls.length;omega),hch⟩,(by show xls.length - (j + 1) < xls.length - j;omega),by refine qa3 h0 ?_ ?_ ?_ <;> simp only [US,WB,simprocAttr]⟩
   · have hj1 : ¬ (j : Int) < (xls.length : Int):=by omega
     rw [zc1 (by omega)] at hch
     rw [hch,List.all_nil,if_pos rfl] at hR
     subst hR
     rw [zd1 (by omega)]
     have hA : qs5 (some (xls.map fun l=>(l,lP l))) = .tup [.slc (xls.map sD),.slc (xls.map fun l=>(lP l).d),bD true]:=by simp [qs5,Function.comp_def]
     rw [hA]
     repeat' (first|(with_reducible apply zz1)|((with_reducible apply zz2);rfl;intro K' hK';simp only [WB,simprocAttr,hj1];(repeat (constructor;focus (clear hK';intros;simp_all;done)));(try (apply hK';clear hK' K')))|((with_reducible apply zz3);rfl;all_goals (intro h;try exact absurd h (by decide))))
     simp only [qf7,qd5,qa2,qd6,WB,simprocAttr]
 · simp only [if_true] at hR
   repeat' (first|(with_reducible apply zz1)|((with_reducible apply zz2);rfl;intro K' hK';simp only [WB,simprocAttr,zi];(repeat (constructor;focus (clear hK';intros;simp_all;done)));(try (apply hK';clear hK' K')))|((with_reducible apply zz3);rfl;all_goals (intro h;try exact absurd h (by decide))))
   (with_reducible refine qa6 ?_ ?_ ?_ (⟨⟨[],[]⟩,[],[],[],[]⟩) _ rfl (fun K' hK' gops fin hgops hfin=>?_)
    · kernel_rfl
    · rfl
    · rfl
    repeat' first
     | (refine qa9 rfl trivial (by simp only [WB,simprocAttr,UX,UA];rfl) (by simp only [zb,ze];rfl) (by simp only [zn2];rfl) ?_)
     | (refine qa8 rfl rfl trivial (by simp only [WB,simprocAttr,UX,UA,za ];rfl) ?_ (by simp only [WB,simprocAttr,UX,UA];rfl) (by simp only [WB,simprocAttr,UX,UA];rfl) (by simp only [zb,ze];rfl) (by simp only [zn2];rfl) ?_;focus (first | trivial | ((repeat' constructor) <;> first | trivial | assumption | (clear hK' hfin hgops;intros;simp_all;done))))
    (refine qb5 (by subst hfin;kernel_rfl) ?_)
    clear hfin hgops fin gops
    (try (apply hK';clear hK' K')))
   repeat' (first|(with_reducible apply zz1)|((with_reducible apply zz2);rfl;intro K' hK';simp only [WB,simprocAttr,zi];(repeat (constructor;focus (clear hK';intros;simp_all;done)));(try (apply hK';clear hK' K')))|((with_reducible apply zz3);rfl;all_goals (intro h;try exact absurd h (by decide))))
   (with_reducible refine qa6 ?_ ?_ ?_ (⟨⟨[],[]⟩,[],[],[],[]⟩) _ rfl (fun K' hK' gops fin hgops hfin=>?_)
    · kernel_rfl
    · rfl
    · rfl
    repeat' first
     | (refine qa9 rfl trivial (by simp only [WB,simprocAttr,UX,UA];rfl) (by simp only [zb,ze];rfl) (by simp only [zn2];rfl) ?_)
     | (refine qa8 rfl rfl trivial (by simp only [WB,simprocAttr,UX,UA,za ];rfl) ?_ (by simp only [WB,simprocAttr,UX,UA];rfl) (by simp only [WB,simprocAttr,UX,UA];rfl) (by simp only [zb,ze];rfl) (by simp only [zn2];rfl) ?_;focus (first | trivial | ((repeat' constructor) <;> first | trivial | assumption | (clear hK' hfin hgops;intros;simp_all;done))))
    (refine qb5 (by subst hfin;kernel_rfl) ?_)
    clear hfin hgops fin gops
    (try (apply hK';clear hK' K')))
   repeat' (first|(with_reducible apply zz1)|((with_reducible apply zz2);rfl;intro K' hK';simp only [WB,simprocAttr,zi,za];(repeat (constructor;focus (clear hK';intros;simp_all;done)));(try (apply hK';clear hK' K')))|((with_reducible apply zz3);rfl;all_goals (intro h;try exact absurd h (by decide))))
   refine qm9 6 20 1 rfl rfl (by decide) ?_
   simp only [WB,simprocAttr]
   refine qm9 7 21 2 rfl rfl (by decide) ?_
   simp only [WB,simprocAttr]
   refine qd3 (α := Nat) (fun j=>[(9,.ref 11 0),(10,.ref 12 0),(18,.ref 16 0),(6,.own 20),(7,.own 21),(114,.d (.slc (yls.map sD))),(115,.d (iD yls.length)),(116,.d (iD j))])
    (fun j=>[(11,.cells [.d (iD 7),.d (iD xso),.d (.slc (xls.map sD)),.d (.slc (xto.map iD))]),(12,.cells [.d (iD yk),.d (iD yso),.d (.slc (yls.map sD)),.d (.slc (yto.map iD))]),(16,.cells [.d (iD 7),.d (iD xso),.d (.slc (xls.map sD)),.d (.slc (xto.map iD))]),(20,.row 1 ((yls.take j).map sD)),(21,.row 2 ((yls.take j).map fun l=>(lP l).d))])
    (fun j=>j ≤ yls.length ∧ (yls.all (fun l=>inL xls l) = (yls.drop j).all (fun l=>inL xls l))) (fun j=>yls.length - j) 0 ⟨Nat.zero_le _,rfl⟩ (by refine qa3 h0 ?_ ?_ ?_ <;> simp only [US,WB,simprocAttr,zw,zx]) (fun j hj=>?_)
   obtain ⟨hj,hch⟩:=hj
   have hj0 : (0 : Int) ≤ (j : Int):=by omega
   by_cases hlt : j < yls.length
   · obtain ⟨x,hx⟩ : ∃ x,yls[j]? = some x:=⟨yls[j],by simp [hlt]⟩
     have hxm:=zy hx
     have hxg : (yls.map sD).getD j default = sD x:=by simp [zo,hx]
     have hj1 : (j : Int) < (yls.length : Int):=by omega
     have hw2 : IntKind.i64.wrap ((j : Int) + 1) = ((j + 1 : Nat) : Int):=by rw [qd7 (by omega) (by omega)];omega
     have hd : yls.drop j = x :: yls.drop (j + 1):=by
      obtain ⟨h1,h2⟩:=List.getElem?_eq_some_iff.1 hx
      rw [za1 h1,h2]
     rw [hd,zb1] at hch
     have hct : DFn Tryd.prog Γ 62 [.slc (xls.map sD),sD x] (.v (.bool (inL xls x))):=qj7 Γ xls x (by omega)
     cases hin : inL xls x with
     | false =>
      rw [hin] at hct
      have hall : yls.all (fun l=>inL xls l) = false:=by rw [hch,hin];rfl
      rw [hall] at hR
      rw [if_neg (by decide)] at hR
      subst hR
      repeat' (first|(with_reducible apply zz1)|((with_reducible apply zz2);rfl;intro K' hK';simp only [WB,simprocAttr,zm,hxg,hj0,hj1,za];(repeat (constructor;focus (clear hK';intros;simp_all;done)));(try (apply hK';clear hK' K')))|((with_reducible apply zz3);rfl;all_goals (intro h;try exact absurd h (by decide))))
      refine qb1 rfl (by simp only [WB,simprocAttr]) rfl rfl (hct) ?_
      simp only [WB,simprocAttr,inX,qc7,zf,zh,cond_true,cond_false]
      (repeat (constructor;focus (clear hK';intros;simp_all;done)))
      (try (apply hK';clear hK' K'))
      repeat' (first|(with_reducible apply zz1)|((with_reducible apply zz2);rfl;intro K' hK';simp only [WB,simprocAttr];(repeat (constructor;focus (clear hK';intros;simp_all;done)));(try (apply hK';clear hK' K')))|((with_reducible apply zz3);rfl;all_goals (intro h;try exact absurd h (by decide))))
      simp only [qf7,qd5,qa2,qd6,WB,simprocAttr,qs5]
     | true =>
      rw [hin] at hct
      rw [hin,zq] at hch
      have hxx : x ∈ xls:=ql5.1 hin
      have hxy : x ∈ yls:=hxm
      have rx:=qk8 hxx
      have ry:=qk8 hxy
      have hI : DFn Tryd.prog Γ 34 [.slc (xls.map sD),sD x] (iD (ixL x xls)):=qm5 Γ xls x (by omega)
      have hJ : DFn Tryd.prog Γ 34 [.slc (yls.map sD),sD x] (iD (ixL x yls)):=qm5 Γ yls x (by omega)
      have qx:=q0 xto (ixL x xls).toNat (by omega)
      have qy:=q0 yto (ixL x yls).toNat (by omega)
      have i0:=rx.1
      have k0:=ry.1
      have i1 : ixL x xls < (xto.length : Int):=by omega
      have k1 : ixL x yls < (yto.length : Int):=by omega
      have hm1 : (yls.take j).map sD ++ [sD x] = (yls.take (j + 1)).map sD:=by rw [zn,hx];simp
      have hm2 : (yls.take j).map (fun l=>(lP l).d) ++ [.agg [iD (xto.getD (ixL x xls).toNat 0),iD (yto.getD (ixL x yls).toNat 0)]] = (yls.take (j + 1)).map fun l=>(lP l).d:=by rw [zn,hx];simp [hlP,Pc.d]
      have hl1 : ((yls.take j).map sD).length = j:=by simp;omega
      have hl2 : ((yls.take j).map fun l=>(lP l).d).length = j:=by simp;omega
      obtain ⟨A1,hA1⟩ : ∃ A,(yls.take j).map sD = A:=⟨_,rfl⟩
      obtain ⟨A2,hA2⟩ : ∃ A,((yls.take j).map fun l=>(lP l).d) = A:=⟨_,rfl⟩
      rw [hA1] at hm1 hl1 ⊢
      rw [hA2] at hm2 hl2 ⊢
      have hn5 : (j + 1) * 16 ≤ 140737488355328:=by omega
      have hn6 : j + 1 ≤ maxLen:=by unfold maxLen;omega
      generalize xto.getD (ixL x xls).toNat 0 = XV at *
      generalize yto.getD (ixL x yls).toNat 0 = YV at *
      generalize ixL x xls = IX at *
      generalize ixL x yls = IY at *
      repeat' (first|(with_reducible apply zz1)|((with_reducible apply zz2);rfl;intro K' hK';simp only [WB,simprocAttr,zm,hxg,hj0,hj1,za];(repeat (constructor;focus (clear hK';intros;simp_all;done)));(try (apply hK';clear hK' K')))|((with_reducible apply zz3);rfl;all_goals (intro h;try exact absurd h (by decide))))
      refine qb1 rfl (by simp only [WB,simprocAttr]) rfl rfl (hct) ?_
      simp only [WB,simprocAttr,inX,qc7,zf,zh,cond_true,cond_false]
      (repeat (constructor;focus (clear hK';intros;simp_all;done)))
      (try (apply hK';clear hK' K'))
      repeat' (first|(with_reducible apply zz1)|((with_reducible apply zz2);rfl;intro K' hK';simp only [WB,simprocAttr,hl1,hn5,hn6,hm1];(repeat (constructor;focus (clear hK';intros;simp_all;done)));(try (apply hK';clear hK' K')))|((with_reducible apply zz3);rfl;all_goals (intro h;try exact absurd h (by decide))))
      (with_reducible refine qa6 ?_ ?_ ?_ (⟨⟨[(6,iD IX),(14,iD IY)],[]⟩,[],[],[],[]⟩) _ rfl (fun K' hK' gops fin hgops hfin=>?_)
       · kernel_rfl
       · rfl
       · rfl
       repeat' first
        | (refine qa9 rfl trivial (by simp only [WB,simprocAttr,UX,UA];rfl) (by simp only [zb,ze];rfl) (by simp only [zn2];rfl) ?_)
        | (refine qa8 rfl rfl trivial (by simp only [WB,simprocAttr,UX,UA,hI,hJ,i0,i1,k0,k1,qx,qy,hl2,hn5,hn6,hm2,za ];rfl) ?_ (by simp only [WB,simprocAttr,UX,UA];rfl) (by simp only [WB,simprocAttr,UX,UA];rfl) (by simp only [zb,ze];rfl) (by simp only [zn2];rfl) ?_;focus (first | trivial | ((repeat' constructor) <;> first | trivial | assumption | (clear hK' hfin hgops;intros;simp_all;done))))
       (refine qb5 (by subst hfin;kernel_rfl) ?_)
       clear hfin hgops fin gops
       (try (apply hK';clear hK' K')))
      repeat' (first|(with_reducible apply zz1)|((with_reducible apply zz2);rfl;intro K' hK';simp only [WB,simprocAttr,hw2];(repeat (constructor;focus (clear hK';intros;simp_all;done)));(try (apply hK';clear hK' K')))|((with_reducible apply zz3);rfl;all_goals (intro h;try exact absurd h (by decide))))
      refine ⟨j + 1,⟨(by show j + 1 ≤ yls.length;omega),hch⟩,(by show yls.length - (j + 1) < yls.length - j;omega),by refine qa3 h0 ?_ ?_ ?_ <;> simp only [US,WB,simprocAttr]⟩
   · have hj1 : ¬ (j : Int) < (yls.length : Int):=by omega
     rw [zc1 (by omega)] at hch
     rw [hch,List.all_nil,if_pos rfl] at hR
     subst hR
     rw [zd1 (by omega)]
     have hA : qs5 (some (yls.map fun l=>(l,lP l))) = .tup [.slc (yls.map sD),.slc (yls.map fun l=>(lP l).d),bD true]:=by simp [qs5,Function.comp_def]
     rw [hA]
     repeat' (first|(with_reducible apply zz1)|((with_reducible apply zz2);rfl;intro K' hK';simp only [WB,simprocAttr,hj1];(repeat (constructor;focus (clear hK';intros;simp_all;done)));(try (apply hK';clear hK' K')))|((with_reducible apply zz3);rfl;all_goals (intro h;try exact absurd h (by decide))))
     simp only [qf7,qd5,qa2,qd6,WB,simprocAttr]
end Go.Proofs.YtgecnlcbdbaneaaDoor
