/- comply.meets at a choice; a symbolic walk. -/
-- TYPESB
import Derived.Test.YtgecnlcbdbaneaaDoorH25
import Derived.Test.YtgecnlcbdbaneaaDoorHG
set_option linter.unusedVariables false
set_option linter.unusedSimpArgs false
namespace Go.Proofs.YtgecnlcbdbaneaaDoor
open Go.RowKit Go.Sw
open Nat renaming reduceBEq → zn0, reduceLeDiff → zn1, reduceAdd → zn2, reduceSub → zn3, reduceMul → zn4
open Int renaming reduceLE → zi0, reduceLT → zi1, reduceToNat → zi2
open Go.Sw renaming swp_seq → zw0, swp_block → zw1, swp_skip → zw2, swp_ret → zw3, swp_exit → zw4, swp_label → zw5, kseq_n → zw6, kseq_x → zw7, kseq_r → zw8, kblk_n → zw9, kblk_r → zw10, kblk_xs → zw11, kblk_xn → zw12, kloop_x → zw13, kloop_r → zw14, swp_cond → zw15, swp_regionP → zw16

structure Pc where
  a : Int
  b : Int
deriving DecidableEq
def Pc.d (p : Pc) : D:=.agg [iD p.a,iD p.b]
def subG (g h : List Nd) : Bool:=(whyP g h).isNone
def carryB (g h : List Nd) (x y : Nd) : Bool:=if x.k = 5 then subG (atP h (y.to.getD 0 0)) (atP g (x.to.getD 0 0)) else subG (atP g (x.to.getD 0 0)) (atP h (y.to.getD 0 0))
def outL (x y : Nd) : List ByteArray:=if x.k = 7 then y.ls else x.ls
def inL2 (x y : Nd) : List ByteArray:=if x.k = 7 then x.ls else y.ls
def lPc (x y : Nd) (l : ByteArray) : ByteArray × Pc:=(l,⟨x.to.getD (ixL l x.ls).toNat 0,y.to.getD (ixL l y.ls).toNat 0⟩)
def meetsP (g h : List Nd) (p : Pc) : Option (List (ByteArray × Pc)) :=
  if (gAt h p.b).k ≠ dKind (gAt g p.a).k then none else if (gAt g p.a).so ≠ (gAt h p.b).so then none
  else if (gAt g p.a).k = 2 ∨ (gAt g p.a).k = 3 then some [(dotS,⟨(gAt g p.a).to.getD 0 0,(gAt h p.b).to.getD 0 0⟩)]
  else if (gAt g p.a).k = 4 ∨ (gAt g p.a).k = 5 then (if carryB g h (gAt g p.a) (gAt h p.b) = true then some [(dotS,⟨(gAt g p.a).to.getD 1 0,(gAt h p.b).to.getD 1 0⟩)] else none)
  else if (gAt g p.a).k = 6 ∨ (gAt g p.a).k = 7 then (if (outL (gAt g p.a) (gAt h p.b)).all (fun l=>inL (inL2 (gAt g p.a) (gAt h p.b)) l) = true then some ((outL (gAt g p.a) (gAt h p.b)).map (lPc (gAt g p.a) (gAt h p.b))) else none)
  else some []
def meetA (r : Option (List (ByteArray × Pc))) : D:=match r with | some l=>.tup [.slc (l.map fun q=>sD q.1),.slc (l.map fun q=>q.2.d),bD true] | none=>.tup [.slc [],.slc [],bD false]
theorem atP_len (g : List Nd) (k : Int) : (atP g k).length = g.length:=by simp [atP]
theorem atP_good {g : List Nd} {k : Int} (h0 : 0 < g.length) (hk : 0 ≤ k ∧ k < (g.length : Int)) (hg : ∀ n ∈ g,NdG g.length n) (hs : ShG g) : (∀ n ∈ atP g k,NdG (atP g k).length n) ∧ ShG (atP g k):=by
  have key : ∀ n ∈ atP g k, ∃ m ∈ g,n = ⟨m.k,m.so,m.ls,m.to.map (swI k)⟩:=fun n hn=>by
    obtain ⟨i,hi,rfl⟩:=List.mem_map.1 hn
    have hi:=List.mem_range.1 hi
    have hr:=swI_range h0 hk (i:=(i : Int)) ⟨by omega,by omega⟩
    exact ⟨_,gAt_mem hr.1 hr.2,rfl⟩
  constructor
  · intro n hn
    obtain ⟨m,hm,rfl⟩:=key n hn
    have gm:=hg m hm
    rw [atP_len]
    refine ⟨⟨gm.ok.k,gm.ok.so,gm.ok.ls,gm.ok.lb,by simp only [List.length_map];exact gm.ok.to,fun t ht=>?_⟩,⟨fun h=>by simp only [List.length_map];exact gm.sh.one h,fun h=>by simp only [List.length_map];exact gm.sh.two h,by simp only [List.length_map];exact gm.sh.ls,gm.sh.l6⟩,gm.nm⟩
    obtain ⟨u,hu,rfl⟩:=List.mem_map.1 ht
    exact swI_range h0 hk (gm.ok.r u hu)
  · intro n hn
    obtain ⟨m,hm,rfl⟩:=key n hn
    simp only [List.length_map]
    exact hs m hm
theorem atP_obs {g : List Nd} {k : Int} (h0 : 0 < g.length) (hk : 0 ≤ k ∧ k < (g.length : Int)) (hg : ∀ n ∈ g,NdG g.length n) : ∀ (n : Nat) (i : Int),0 ≤ i → i < (g.length : Int) → obs (atP g k) n i = obs g n (swI k i)
  | 0,_,_,_=>rfl
  | n + 1,i,i0,i1=>by
    have hr:=swI_range h0 hk ⟨i0,i1⟩
    have e : gAt (atP g k) i = atNd g k i.toNat:=by
      unfold gAt atP
      rw [List.getD_eq_getElem?_getD,List.getElem?_map,List.getElem?_range (by omega)]
      rfl
    rw [obs,obs,e]
    unfold atNd
    rw [show ((i.toNat : Nat) : Int) = i by omega]
    simp only [List.map_map]
    congr 1
    apply List.map_congr_left
    intro t ht
    have hm:=(hg _ (gAt_mem hr.1 hr.2)).ok.r t ht
    have h1:=swI_range h0 hk hm
    simp only [Function.comp]
    rw [atP_obs h0 hk hg n (swI k t) h1.1 h1.2]
    congr 1
    unfold swI
    by_cases a : t = 0
    · rw [if_pos a]
      by_cases b : k = 0
      · rw [if_pos b,a,b]
      · rw [if_neg b,if_pos rfl,a]
    · rw [if_neg a]
      by_cases b : t = k
      · rw [if_pos b,if_pos rfl,b]
      · rw [if_neg b,if_neg a,if_neg b]
theorem Gd.at {g : List Nd} (h : Gd g) {k : Int} (hk : 0 ≤ k ∧ k < (g.length : Int)) : Gd (atP g k) :=
  ⟨by rw [atP_len];exact h.pos,by rw [atP_len];exact h.le,(atP_good h.pos hk h.ok h.sh).1,(atP_good h.pos hk h.ok h.sh).2⟩
theorem graphsG_fn (Γ : Gl) {a b : List Nd} (ha : Gd a) (hb : Gd b) : DFn Tryd.prog Γ 25 [.slc (a.map Nd.d),.slc (b.map Nd.d)] (.tup [bD (subG a b),iD 0]):=graphs_fn Γ a b ha.pos hb.pos ha.le hb.le ha.ok hb.ok ha.sh hb.sh
theorem atG_fn (Γ : Gl) {g : List Nd} (h : Gd g) {k : Int} (hk : 0 ≤ k ∧ k < (g.length : Int)) : DFn Tryd.prog Γ 73 [.slc (g.map Nd.d),iD k] (.slc ((atP g k).map Nd.d)):=at_fn Γ g k (by have:=h.le;omega) h.pos hk h.ok
set_option maxHeartbeats 16000000 in
set_option maxRecDepth 100000 in
theorem meets67_fn (Γ : Gl) (g h : List Nd) (a b : Int) (ha0 : 0 ≤ a) (ha1 : a < (g.length : Int)) (hb0 : 0 ≤ b) (hb1 : b < (h.length : Int)) (xk xso : Int) (xls : List ByteArray) (xto : List Int) (yk yso : Int) (yls : List ByteArray) (yto : List Int)
    (hXe : gAt g a = ⟨xk,xso,xls,xto⟩) (hYe : gAt h b = ⟨yk,yso,yls,yto⟩) (hX3 : xls.length ≤ xto.length) (hY3 : yls.length ≤ yto.length) (hX6 : xls.length ≤ 6) (hY6 : yls.length ≤ 6) (hkk : yk = dKind xk) (hss : xso = yso) (h67 : xk = 6 ∨ xk = 7) (R : Option (List (ByteArray × Pc)))
    (hR : (if (outL ⟨xk,xso,xls,xto⟩ ⟨yk,yso,yls,yto⟩).all (fun l=>inL (inL2 ⟨xk,xso,xls,xto⟩ ⟨yk,yso,yls,yto⟩) l) = true then some ((outL ⟨xk,xso,xls,xto⟩ ⟨yk,yso,yls,yto⟩).map (lPc ⟨xk,xso,xls,xto⟩ ⟨yk,yso,yls,yto⟩)) else none) = R) :
    DFn Tryd.prog Γ 58 [.slc (g.map Nd.d),.slc (h.map Nd.d),.agg [iD a,iD b]] (meetA R):=by
  have hga:=gAt_d ha0 ha1
  have hgb:=gAt_d hb0 hb1
  rw [hXe] at hga
  rw [hYe] at hgb
  simp only [Nd.d] at hga hgb
  have hk:=kind_fn Γ xk
  have q0 : ∀ (l : List Int) (i : Nat),i < l.length → (l.map iD).getD i default = iD (l.getD i 0):=fun l i hi=>by simp [List.getD,hi]
  have gk : (yk != dKind xk) = false:=by simpa using hkk
  have gs : (xso != yso) = false:=by simpa using hss
  obtain ⟨lP,hlP⟩ : ∃ lP : ByteArray → Pc,lP = fun l=>⟨xto.getD (ixL l xls).toNat 0,yto.getD (ixL l yls).toNat 0⟩:=⟨_,rfl⟩
  have hlp : lPc ⟨xk,xso,xls,xto⟩ ⟨yk,yso,yls,yto⟩ = fun l=>(l,lP l):=by rw [hlP];rfl
  rw [hlp] at hR
  unfold outL inL2 at hR
  simp only at hR
  refine fn_of_swp (N:=152) Tryd.func58 rfl (by decide) rfl rfl (by simp) (fun C h0=>?_)
  simp only [argE]
  repeat' (first|(with_reducible first|apply zw0|apply zw1|apply zw2|apply zw3|apply zw4|apply zw5|apply zw6|apply zw7|apply zw8|apply zw9|apply zw10|apply zw11|apply zw13|apply zw14)|((with_reducible refine zw12 ?_ ?_);rfl)|((with_reducible refine zw16 ?_ ?_ (fun K' hK'=>?_));rfl;rfl;simp only [UN,LM,zn0,zn1,zi0,zi1,zi2,zn2,zn3,zn4,reduceCtorEq,TAS,TBS];(repeat (refine And.intro ?_ ?_;focus (clear hK';intros;simp_all;done)));(try (refine hK' _ _ ?_;clear hK' K')))|((with_reducible refine zw15 ?_ ?_);rfl;refine ⟨_,rfl,fun h=>?_,fun h=>?_⟩ <;> try exact absurd h (by decide)))
  (with_reducible refine swp_drawX ?_ ?_ ?_ (⟨⟨[],[]⟩,[],[],[],[]⟩) _ rfl (fun K' hK' gops fin hgops hfin=>?_)
   · kernel_rfl
   · rfl
   · rfl
   repeat' first
     | (refine vcX_dead rfl trivial (by simp only [UN,LM,zn0,zn1,zi0,zi1,zi2,zn2,zn3,zn4,reduceCtorEq,TAS,TBS,Eff.env,Eff.st,jkE,jkS,UA,LM];rfl) (by simp only [List.nil_append,List.cons_append];rfl) (by simp only [zn2];rfl) ?_)
     | (refine vcX_step rfl rfl trivial (by simp only [UN,LM,zn0,zn1,zi0,zi1,zi2,zn2,zn3,zn4,reduceCtorEq,TAS,TBS,stepX,stepX1,frzR,stepX0,callN,storeE,dAll,setE,callM,mArgs,SV.calm,SV.calms,callB,callP,bArgs,hasR,hins,hin,yes,inX,stepW,callR,effO,srcE,Eff.env,Eff.st,writeOp,callA,pureOp,Bool.or_true,Bool.true_or,Bool.or_self,Bool.or_false,Bool.false_or,Bool.not_true,Bool.not_false,D.flat,D.flats,true_or,or_true,forall_const,UA,ha0,ha1,hb0,hb1,hga,hgb,List.length_map ];rfl) ?_ (by simp only [UN,LM,zn0,zn1,zi0,zi1,zi2,zn2,zn3,zn4,reduceCtorEq,TAS,TBS,Eff.env,Eff.st,jkE,jkS,UA,LM];rfl) (by simp only [UN,LM,zn0,zn1,zi0,zi1,zi2,zn2,zn3,zn4,reduceCtorEq,TAS,TBS,Eff.env,Eff.st,jkE,jkS,UA,LM];rfl) (by simp only [List.nil_append,List.cons_append];rfl) (by simp only [zn2];rfl) ?_;focus (first | trivial | ((repeat' (refine And.intro ?_ ?_)) <;> first | trivial | assumption | (clear hK' hfin hgops;intros;simp_all;done))))
   (refine vcX_nil (by subst hfin;kernel_rfl) ?_)
   clear hfin hgops fin gops
   (try (refine hK' _ _ ?_;clear hK' K')))
  repeat' (first|(with_reducible first|apply zw0|apply zw1|apply zw2|apply zw3|apply zw4|apply zw5|apply zw6|apply zw7|apply zw8|apply zw9|apply zw10|apply zw11|apply zw13|apply zw14)|((with_reducible refine zw12 ?_ ?_);rfl)|((with_reducible refine zw16 ?_ ?_ (fun K' hK'=>?_));rfl;rfl;simp only [UN,LM,zn0,zn1,zi0,zi1,zi2,zn2,zn3,zn4,reduceCtorEq,TAS,TBS];(repeat (refine And.intro ?_ ?_;focus (clear hK';intros;simp_all;done)));(try (refine hK' _ _ ?_;clear hK' K')))|((with_reducible refine zw15 ?_ ?_);rfl;refine ⟨_,rfl,fun h=>?_,fun h=>?_⟩ <;> try exact absurd h (by decide)))
  (with_reducible refine swp_draw ?_ ?_ ?_ ( [(4,iD (dKind xk))]) (fun K' hK'=>?_)
   · kernel_rfl
   · rfl
   · rfl
   simp only [UN,LM,zn0,zn1,zi0,zi1,zi2,zn2,zn3,zn4,reduceCtorEq,TAS,TBS,vcA,stepA,callA,rst,lksA,Oper.looksAt,Op.operands,pureOp,Call.operands,List.filterMap_cons,List.filterMap_nil,Option.toList_none,Option.toList_some,Option.bind_some,Option.bind_none,List.getElem?_toArray,Array.toList_append,List.append_nil,D.flat,D.flats,true_or,or_true,forall_const,hk,gk,gs,Bool.not_true,Bool.not_false,Bool.true_and,Bool.false_and,false_implies,cond_true,cond_false ]
   (try (refine hK' _ _ ?_;clear hK' K')))
  rcases h67 with rfl | rfl
  · simp only [if_neg (show ¬ (6 : Int) = 7 by decide)] at hR
    repeat' (first|(with_reducible first|apply zw0|apply zw1|apply zw2|apply zw3|apply zw4|apply zw5|apply zw6|apply zw7|apply zw8|apply zw9|apply zw10|apply zw11|apply zw13|apply zw14)|((with_reducible refine zw12 ?_ ?_);rfl)|((with_reducible refine zw16 ?_ ?_ (fun K' hK'=>?_));rfl;rfl;simp only [UN,LM,zn0,zn1,zi0,zi1,zi2,zn2,zn3,zn4,reduceCtorEq,TAS,TBS,Int.reduceBEq];(repeat (refine And.intro ?_ ?_;focus (clear hK';intros;simp_all;done)));(try (refine hK' _ _ ?_;clear hK' K')))|((with_reducible refine zw15 ?_ ?_);rfl;refine ⟨_,rfl,fun h=>?_,fun h=>?_⟩ <;> try exact absurd h (by decide)))
    (with_reducible refine swp_drawX ?_ ?_ ?_ (⟨⟨[],[]⟩,[],[],[],[]⟩) _ rfl (fun K' hK' gops fin hgops hfin=>?_)
     · kernel_rfl
     · rfl
     · rfl
     repeat' first
       | (refine vcX_dead rfl trivial (by simp only [UN,LM,zn0,zn1,zi0,zi1,zi2,zn2,zn3,zn4,reduceCtorEq,TAS,TBS,Eff.env,Eff.st,jkE,jkS,UA,LM];rfl) (by simp only [List.nil_append,List.cons_append];rfl) (by simp only [zn2];rfl) ?_)
       | (refine vcX_step rfl rfl trivial (by simp only [UN,LM,zn0,zn1,zi0,zi1,zi2,zn2,zn3,zn4,reduceCtorEq,TAS,TBS,stepX,stepX1,frzR,stepX0,callN,storeE,dAll,setE,callM,mArgs,SV.calm,SV.calms,callB,callP,bArgs,hasR,hins,hin,yes,inX,stepW,callR,effO,srcE,Eff.env,Eff.st,writeOp,callA,pureOp,Bool.or_true,Bool.true_or,Bool.or_self,Bool.or_false,Bool.false_or,Bool.not_true,Bool.not_false,D.flat,D.flats,true_or,or_true,forall_const,UA,List.length_map ];rfl) ?_ (by simp only [UN,LM,zn0,zn1,zi0,zi1,zi2,zn2,zn3,zn4,reduceCtorEq,TAS,TBS,Eff.env,Eff.st,jkE,jkS,UA,LM];rfl) (by simp only [UN,LM,zn0,zn1,zi0,zi1,zi2,zn2,zn3,zn4,reduceCtorEq,TAS,TBS,Eff.env,Eff.st,jkE,jkS,UA,LM];rfl) (by simp only [List.nil_append,List.cons_append];rfl) (by simp only [zn2];rfl) ?_;focus (first | trivial | ((repeat' (refine And.intro ?_ ?_)) <;> first | trivial | assumption | (clear hK' hfin hgops;intros;simp_all;done))))
     (refine vcX_nil (by subst hfin;kernel_rfl) ?_)
     clear hfin hgops fin gops
     (try (refine hK' _ _ ?_;clear hK' K')))
    repeat' (first|(with_reducible first|apply zw0|apply zw1|apply zw2|apply zw3|apply zw4|apply zw5|apply zw6|apply zw7|apply zw8|apply zw9|apply zw10|apply zw11|apply zw13|apply zw14)|((with_reducible refine zw12 ?_ ?_);rfl)|((with_reducible refine zw16 ?_ ?_ (fun K' hK'=>?_));rfl;rfl;simp only [UN,LM,zn0,zn1,zi0,zi1,zi2,zn2,zn3,zn4,reduceCtorEq,TAS,TBS,Int.reduceBEq,List.length_map];(repeat (refine And.intro ?_ ?_;focus (clear hK';intros;simp_all;done)));(try (refine hK' _ _ ?_;clear hK' K')))|((with_reducible refine zw15 ?_ ?_);rfl;refine ⟨_,rfl,fun h=>?_,fun h=>?_⟩ <;> try exact absurd h (by decide)))
    refine swp_nil 6 20 1 rfl rfl (by decide) ?_
    simp only [UN,LM,zn0,zn1,zi0,zi1,zi2,zn2,zn3,zn4,reduceCtorEq]
    refine swp_nil 7 21 2 rfl rfl (by decide) ?_
    simp only [UN,LM,zn0,zn1,zi0,zi1,zi2,zn2,zn3,zn4,reduceCtorEq]
    refine swp_loop (α := Nat) (fun j=>[(9,.ref 11 0),(10,.ref 12 0),(18,.ref 16 0),(6,.own 20),(7,.own 21),(114,.d (.slc (xls.map sD))),(115,.d (iD xls.length)),(116,.d (iD j))])
      (fun j=>[(11,.cells [.d (iD 6),.d (iD xso),.d (.slc (xls.map sD)),.d (.slc (xto.map iD))]),(12,.cells [.d (iD yk),.d (iD yso),.d (.slc (yls.map sD)),.d (.slc (yto.map iD))]),(16,.cells [.d (iD yk),.d (iD yso),.d (.slc (yls.map sD)),.d (.slc (yto.map iD))]),(20,.row 1 ((xls.take j).map sD)),(21,.row 2 ((xls.take j).map fun l=>(lP l).d))])
      (fun j=>j ≤ xls.length ∧ (xls.all (fun l=>inL yls l) = (xls.drop j).all (fun l=>inL yls l))) (fun j=>xls.length - j) 0 ⟨Nat.zero_le _,rfl⟩ (by refine sub_of h0 ?_ ?_ ?_ <;> simp only [US,UN,LM,zn0,zn1,zi0,zi1,zi2,zn2,zn3,zn4,reduceCtorEq,TAS,TBS,List.take_zero,List.map_nil]) (fun j hj=>?_)
    obtain ⟨hj,hch⟩:=hj
    have hj0 : (0 : Int) ≤ (j : Int):=by omega
    by_cases hlt : j < xls.length
    · obtain ⟨x,hx⟩ : ∃ x,xls[j]? = some x:=⟨xls[j],by simp [hlt]⟩
      have hxm:=List.mem_of_getElem? hx
      have hxg : (xls.map sD).getD j default = sD x:=by simp [List.getD,hx]
      have hj1 : (j : Int) < (xls.length : Int):=by omega
      have hw2 : IntKind.i64.wrap ((j : Int) + 1) = ((j + 1 : Nat) : Int):=by rw [wrap_in (by omega) (by omega)];omega
      have hd : xls.drop j = x :: xls.drop (j + 1):=by
        obtain ⟨h1,h2⟩:=List.getElem?_eq_some_iff.1 hx
        rw [List.drop_eq_getElem_cons h1,h2]
      rw [hd,List.all_cons] at hch
      have hct : DFn Tryd.prog Γ 62 [.slc (yls.map sD),sD x] (.v (.bool (inL yls x))):=containsS_fn Γ yls x (by omega)
      cases hin : inL yls x with
      | false =>
        rw [hin] at hct
        have hall : xls.all (fun l=>inL yls l) = false:=by rw [hch,hin];rfl
        rw [hall] at hR
        rw [if_neg (by decide)] at hR
        subst hR
        repeat' (first|(with_reducible first|apply zw0|apply zw1|apply zw2|apply zw3|apply zw4|apply zw5|apply zw6|apply zw7|apply zw8|apply zw9|apply zw10|apply zw11|apply zw13|apply zw14)|((with_reducible refine zw12 ?_ ?_);rfl)|((with_reducible refine zw16 ?_ ?_ (fun K' hK'=>?_));rfl;rfl;simp only [UN,LM,zn0,zn1,zi0,zi1,zi2,zn2,zn3,zn4,reduceCtorEq,TAS,TBS,Int.toNat_natCast,hxg,hj0,hj1,List.length_map];(repeat (refine And.intro ?_ ?_;focus (clear hK';intros;simp_all;done)));(try (refine hK' _ _ ?_;clear hK' K')))|((with_reducible refine zw15 ?_ ?_);rfl;refine ⟨_,rfl,fun h=>?_,fun h=>?_⟩ <;> try exact absurd h (by decide)))
        refine stop_callF rfl (by simp only [UN,LM,zn0,zn1,zi0,zi1,zi2,zn2,zn3,zn4,reduceCtorEq]) rfl rfl (hct) ?_
        simp only [UN,LM,zn0,zn1,zi0,zi1,zi2,zn2,zn3,zn4,reduceCtorEq,TAS,TBS,inX,dropS,Bool.not_true,Bool.not_false,cond_true,cond_false]
        (repeat (refine And.intro ?_ ?_;focus (clear hK';intros;simp_all;done)))
        (try (refine hK' _ _ ?_;clear hK' K'))
        repeat' (first|(with_reducible first|apply zw0|apply zw1|apply zw2|apply zw3|apply zw4|apply zw5|apply zw6|apply zw7|apply zw8|apply zw9|apply zw10|apply zw11|apply zw13|apply zw14)|((with_reducible refine zw12 ?_ ?_);rfl)|((with_reducible refine zw16 ?_ ?_ (fun K' hK'=>?_));rfl;rfl;simp only [UN,LM,zn0,zn1,zi0,zi1,zi2,zn2,zn3,zn4,reduceCtorEq,TAS,TBS];(repeat (refine And.intro ?_ ?_;focus (clear hK';intros;simp_all;done)));(try (refine hK' _ _ ?_;clear hK' K')))|((with_reducible refine zw15 ?_ ?_);rfl;refine ⟨_,rfl,fun h=>?_,fun h=>?_⟩ <;> try exact absurd h (by decide)))
        simp only [Kret,retL,retOne,oneV,UN,LM,zn0,zn1,zi0,zi1,zi2,zn2,zn3,zn4,reduceCtorEq,TAS,TBS,meetA]
      | true =>
        rw [hin] at hct
        rw [hin,Bool.true_and] at hch
        have hxx : x ∈ xls:=hxm
        have hxy : x ∈ yls:=inL_iff.1 hin
        have rx:=ixL_mem hxx
        have ry:=ixL_mem hxy
        have hI : DFn Tryd.prog Γ 34 [.slc (xls.map sD),sD x] (iD (ixL x xls)):=indexS_fn Γ xls x (by omega)
        have hJ : DFn Tryd.prog Γ 34 [.slc (yls.map sD),sD x] (iD (ixL x yls)):=indexS_fn Γ yls x (by omega)
        have qx:=q0 xto (ixL x xls).toNat (by omega)
        have qy:=q0 yto (ixL x yls).toNat (by omega)
        have i0:=rx.1
        have k0:=ry.1
        have i1 : ixL x xls < (xto.length : Int):=by omega
        have k1 : ixL x yls < (yto.length : Int):=by omega
        have hm1 : (xls.take j).map sD ++ [sD x] = (xls.take (j + 1)).map sD:=by rw [List.take_add_one,hx];simp
        have hm2 : (xls.take j).map (fun l=>(lP l).d) ++ [.agg [iD (xto.getD (ixL x xls).toNat 0),iD (yto.getD (ixL x yls).toNat 0)]] = (xls.take (j + 1)).map fun l=>(lP l).d:=by rw [List.take_add_one,hx];simp [hlP,Pc.d]
        have hl1 : ((xls.take j).map sD).length = j:=by simp;omega
        have hl2 : ((xls.take j).map fun l=>(lP l).d).length = j:=by simp;omega
        obtain ⟨A1,hA1⟩ : ∃ A,(xls.take j).map sD = A:=⟨_,rfl⟩
        obtain ⟨A2,hA2⟩ : ∃ A,((xls.take j).map fun l=>(lP l).d) = A:=⟨_,rfl⟩
        rw [hA1] at hm1 hl1 ⊢
        rw [hA2] at hm2 hl2 ⊢
        have hn5 : (j + 1) * 16 ≤ 140737488355328:=by omega
        have hn6 : j + 1 ≤ maxLen:=by unfold maxLen;omega
        generalize xto.getD (ixL x xls).toNat 0 = XV at *
        generalize yto.getD (ixL x yls).toNat 0 = YV at *
        generalize ixL x xls = IX at *
        generalize ixL x yls = IY at *
        repeat' (first|(with_reducible first|apply zw0|apply zw1|apply zw2|apply zw3|apply zw4|apply zw5|apply zw6|apply zw7|apply zw8|apply zw9|apply zw10|apply zw11|apply zw13|apply zw14)|((with_reducible refine zw12 ?_ ?_);rfl)|((with_reducible refine zw16 ?_ ?_ (fun K' hK'=>?_));rfl;rfl;simp only [UN,LM,zn0,zn1,zi0,zi1,zi2,zn2,zn3,zn4,reduceCtorEq,TAS,TBS,Int.toNat_natCast,hxg,hj0,hj1,List.length_map];(repeat (refine And.intro ?_ ?_;focus (clear hK';intros;simp_all;done)));(try (refine hK' _ _ ?_;clear hK' K')))|((with_reducible refine zw15 ?_ ?_);rfl;refine ⟨_,rfl,fun h=>?_,fun h=>?_⟩ <;> try exact absurd h (by decide)))
        refine stop_callF rfl (by simp only [UN,LM,zn0,zn1,zi0,zi1,zi2,zn2,zn3,zn4,reduceCtorEq]) rfl rfl (hct) ?_
        simp only [UN,LM,zn0,zn1,zi0,zi1,zi2,zn2,zn3,zn4,reduceCtorEq,TAS,TBS,inX,dropS,Bool.not_true,Bool.not_false,cond_true,cond_false]
        (repeat (refine And.intro ?_ ?_;focus (clear hK';intros;simp_all;done)))
        (try (refine hK' _ _ ?_;clear hK' K'))
        repeat' (first|(with_reducible first|apply zw0|apply zw1|apply zw2|apply zw3|apply zw4|apply zw5|apply zw6|apply zw7|apply zw8|apply zw9|apply zw10|apply zw11|apply zw13|apply zw14)|((with_reducible refine zw12 ?_ ?_);rfl)|((with_reducible refine zw16 ?_ ?_ (fun K' hK'=>?_));rfl;rfl;simp only [UN,LM,zn0,zn1,zi0,zi1,zi2,zn2,zn3,zn4,reduceCtorEq,TAS,TBS,hl1,hn5,hn6,hm1];(repeat (refine And.intro ?_ ?_;focus (clear hK';intros;simp_all;done)));(try (refine hK' _ _ ?_;clear hK' K')))|((with_reducible refine zw15 ?_ ?_);rfl;refine ⟨_,rfl,fun h=>?_,fun h=>?_⟩ <;> try exact absurd h (by decide)))
        (with_reducible refine swp_drawX ?_ ?_ ?_ (⟨⟨[(6,iD IX),(14,iD IY)],[]⟩,[],[],[],[]⟩) _ rfl (fun K' hK' gops fin hgops hfin=>?_)
         · kernel_rfl
         · rfl
         · rfl
         repeat' first
           | (refine vcX_dead rfl trivial (by simp only [UN,LM,zn0,zn1,zi0,zi1,zi2,zn2,zn3,zn4,reduceCtorEq,TAS,TBS,Eff.env,Eff.st,jkE,jkS,UA,LM];rfl) (by simp only [List.nil_append,List.cons_append];rfl) (by simp only [zn2];rfl) ?_)
           | (refine vcX_step rfl rfl trivial (by simp only [UN,LM,zn0,zn1,zi0,zi1,zi2,zn2,zn3,zn4,reduceCtorEq,TAS,TBS,stepX,stepX1,frzR,stepX0,callN,storeE,dAll,setE,callM,mArgs,SV.calm,SV.calms,callB,callP,bArgs,hasR,hins,hin,yes,inX,stepW,callR,effO,srcE,Eff.env,Eff.st,writeOp,callA,pureOp,Bool.or_true,Bool.true_or,Bool.or_self,Bool.or_false,Bool.false_or,Bool.not_true,Bool.not_false,D.flat,D.flats,true_or,or_true,forall_const,UA,hI,hJ,i0,i1,k0,k1,qx,qy,hl2,hn5,hn6,hm2,List.length_map ];rfl) ?_ (by simp only [UN,LM,zn0,zn1,zi0,zi1,zi2,zn2,zn3,zn4,reduceCtorEq,TAS,TBS,Eff.env,Eff.st,jkE,jkS,UA,LM];rfl) (by simp only [UN,LM,zn0,zn1,zi0,zi1,zi2,zn2,zn3,zn4,reduceCtorEq,TAS,TBS,Eff.env,Eff.st,jkE,jkS,UA,LM];rfl) (by simp only [List.nil_append,List.cons_append];rfl) (by simp only [zn2];rfl) ?_;focus (first | trivial | ((repeat' (refine And.intro ?_ ?_)) <;> first | trivial | assumption | (clear hK' hfin hgops;intros;simp_all;done))))
         (refine vcX_nil (by subst hfin;kernel_rfl) ?_)
         clear hfin hgops fin gops
         (try (refine hK' _ _ ?_;clear hK' K')))
        repeat' (first|(with_reducible first|apply zw0|apply zw1|apply zw2|apply zw3|apply zw4|apply zw5|apply zw6|apply zw7|apply zw8|apply zw9|apply zw10|apply zw11|apply zw13|apply zw14)|((with_reducible refine zw12 ?_ ?_);rfl)|((with_reducible refine zw16 ?_ ?_ (fun K' hK'=>?_));rfl;rfl;simp only [UN,LM,zn0,zn1,zi0,zi1,zi2,zn2,zn3,zn4,reduceCtorEq,TAS,TBS,hw2];(repeat (refine And.intro ?_ ?_;focus (clear hK';intros;simp_all;done)));(try (refine hK' _ _ ?_;clear hK' K')))|((with_reducible refine zw15 ?_ ?_);rfl;refine ⟨_,rfl,fun h=>?_,fun h=>?_⟩ <;> try exact absurd h (by decide)))
        refine ⟨j + 1,⟨(by show j + 1 ≤ xls.length;omega),hch⟩,(by show xls.length - (j + 1) < xls.length - j;omega),by refine sub_of h0 ?_ ?_ ?_ <;> simp only [US,UN,LM,zn0,zn1,zi0,zi1,zi2,zn2,zn3,zn4,reduceCtorEq,TAS,TBS]⟩
    · have hj1 : ¬ (j : Int) < (xls.length : Int):=by omega
      rw [List.drop_of_length_le (by omega)] at hch
      rw [hch,List.all_nil,if_pos rfl] at hR
      subst hR
      rw [List.take_of_length_le (by omega)]
      have hA : meetA (some (xls.map fun l=>(l,lP l))) = .tup [.slc (xls.map sD),.slc (xls.map fun l=>(lP l).d),bD true]:=by simp [meetA,Function.comp_def]
      rw [hA]
      repeat' (first|(with_reducible first|apply zw0|apply zw1|apply zw2|apply zw3|apply zw4|apply zw5|apply zw6|apply zw7|apply zw8|apply zw9|apply zw10|apply zw11|apply zw13|apply zw14)|((with_reducible refine zw12 ?_ ?_);rfl)|((with_reducible refine zw16 ?_ ?_ (fun K' hK'=>?_));rfl;rfl;simp only [UN,LM,zn0,zn1,zi0,zi1,zi2,zn2,zn3,zn4,reduceCtorEq,TAS,TBS,hj1];(repeat (refine And.intro ?_ ?_;focus (clear hK';intros;simp_all;done)));(try (refine hK' _ _ ?_;clear hK' K')))|((with_reducible refine zw15 ?_ ?_);rfl;refine ⟨_,rfl,fun h=>?_,fun h=>?_⟩ <;> try exact absurd h (by decide)))
      simp only [Kret,retL,retOne,oneV,UN,LM,zn0,zn1,zi0,zi1,zi2,zn2,zn3,zn4,reduceCtorEq,TAS,TBS]
  · simp only [if_true] at hR
    repeat' (first|(with_reducible first|apply zw0|apply zw1|apply zw2|apply zw3|apply zw4|apply zw5|apply zw6|apply zw7|apply zw8|apply zw9|apply zw10|apply zw11|apply zw13|apply zw14)|((with_reducible refine zw12 ?_ ?_);rfl)|((with_reducible refine zw16 ?_ ?_ (fun K' hK'=>?_));rfl;rfl;simp only [UN,LM,zn0,zn1,zi0,zi1,zi2,zn2,zn3,zn4,reduceCtorEq,TAS,TBS,Int.reduceBEq];(repeat (refine And.intro ?_ ?_;focus (clear hK';intros;simp_all;done)));(try (refine hK' _ _ ?_;clear hK' K')))|((with_reducible refine zw15 ?_ ?_);rfl;refine ⟨_,rfl,fun h=>?_,fun h=>?_⟩ <;> try exact absurd h (by decide)))
    (with_reducible refine swp_drawX ?_ ?_ ?_ (⟨⟨[],[]⟩,[],[],[],[]⟩) _ rfl (fun K' hK' gops fin hgops hfin=>?_)
     · kernel_rfl
     · rfl
     · rfl
     repeat' first
       | (refine vcX_dead rfl trivial (by simp only [UN,LM,zn0,zn1,zi0,zi1,zi2,zn2,zn3,zn4,reduceCtorEq,TAS,TBS,Eff.env,Eff.st,jkE,jkS,UA,LM];rfl) (by simp only [List.nil_append,List.cons_append];rfl) (by simp only [zn2];rfl) ?_)
       | (refine vcX_step rfl rfl trivial (by simp only [UN,LM,zn0,zn1,zi0,zi1,zi2,zn2,zn3,zn4,reduceCtorEq,TAS,TBS,stepX,stepX1,frzR,stepX0,callN,storeE,dAll,setE,callM,mArgs,SV.calm,SV.calms,callB,callP,bArgs,hasR,hins,hin,yes,inX,stepW,callR,effO,srcE,Eff.env,Eff.st,writeOp,callA,pureOp,Bool.or_true,Bool.true_or,Bool.or_self,Bool.or_false,Bool.false_or,Bool.not_true,Bool.not_false,D.flat,D.flats,true_or,or_true,forall_const,UA,List.length_map ];rfl) ?_ (by simp only [UN,LM,zn0,zn1,zi0,zi1,zi2,zn2,zn3,zn4,reduceCtorEq,TAS,TBS,Eff.env,Eff.st,jkE,jkS,UA,LM];rfl) (by simp only [UN,LM,zn0,zn1,zi0,zi1,zi2,zn2,zn3,zn4,reduceCtorEq,TAS,TBS,Eff.env,Eff.st,jkE,jkS,UA,LM];rfl) (by simp only [List.nil_append,List.cons_append];rfl) (by simp only [zn2];rfl) ?_;focus (first | trivial | ((repeat' (refine And.intro ?_ ?_)) <;> first | trivial | assumption | (clear hK' hfin hgops;intros;simp_all;done))))
     (refine vcX_nil (by subst hfin;kernel_rfl) ?_)
     clear hfin hgops fin gops
     (try (refine hK' _ _ ?_;clear hK' K')))
    repeat' (first|(with_reducible first|apply zw0|apply zw1|apply zw2|apply zw3|apply zw4|apply zw5|apply zw6|apply zw7|apply zw8|apply zw9|apply zw10|apply zw11|apply zw13|apply zw14)|((with_reducible refine zw12 ?_ ?_);rfl)|((with_reducible refine zw16 ?_ ?_ (fun K' hK'=>?_));rfl;rfl;simp only [UN,LM,zn0,zn1,zi0,zi1,zi2,zn2,zn3,zn4,reduceCtorEq,TAS,TBS,Int.reduceBEq];(repeat (refine And.intro ?_ ?_;focus (clear hK';intros;simp_all;done)));(try (refine hK' _ _ ?_;clear hK' K')))|((with_reducible refine zw15 ?_ ?_);rfl;refine ⟨_,rfl,fun h=>?_,fun h=>?_⟩ <;> try exact absurd h (by decide)))
    (with_reducible refine swp_drawX ?_ ?_ ?_ (⟨⟨[],[]⟩,[],[],[],[]⟩) _ rfl (fun K' hK' gops fin hgops hfin=>?_)
     · kernel_rfl
     · rfl
     · rfl
     repeat' first
       | (refine vcX_dead rfl trivial (by simp only [UN,LM,zn0,zn1,zi0,zi1,zi2,zn2,zn3,zn4,reduceCtorEq,TAS,TBS,Eff.env,Eff.st,jkE,jkS,UA,LM];rfl) (by simp only [List.nil_append,List.cons_append];rfl) (by simp only [zn2];rfl) ?_)
       | (refine vcX_step rfl rfl trivial (by simp only [UN,LM,zn0,zn1,zi0,zi1,zi2,zn2,zn3,zn4,reduceCtorEq,TAS,TBS,stepX,stepX1,frzR,stepX0,callN,storeE,dAll,setE,callM,mArgs,SV.calm,SV.calms,callB,callP,bArgs,hasR,hins,hin,yes,inX,stepW,callR,effO,srcE,Eff.env,Eff.st,writeOp,callA,pureOp,Bool.or_true,Bool.true_or,Bool.or_self,Bool.or_false,Bool.false_or,Bool.not_true,Bool.not_false,D.flat,D.flats,true_or,or_true,forall_const,UA,List.length_map ];rfl) ?_ (by simp only [UN,LM,zn0,zn1,zi0,zi1,zi2,zn2,zn3,zn4,reduceCtorEq,TAS,TBS,Eff.env,Eff.st,jkE,jkS,UA,LM];rfl) (by simp only [UN,LM,zn0,zn1,zi0,zi1,zi2,zn2,zn3,zn4,reduceCtorEq,TAS,TBS,Eff.env,Eff.st,jkE,jkS,UA,LM];rfl) (by simp only [List.nil_append,List.cons_append];rfl) (by simp only [zn2];rfl) ?_;focus (first | trivial | ((repeat' (refine And.intro ?_ ?_)) <;> first | trivial | assumption | (clear hK' hfin hgops;intros;simp_all;done))))
     (refine vcX_nil (by subst hfin;kernel_rfl) ?_)
     clear hfin hgops fin gops
     (try (refine hK' _ _ ?_;clear hK' K')))
    repeat' (first|(with_reducible first|apply zw0|apply zw1|apply zw2|apply zw3|apply zw4|apply zw5|apply zw6|apply zw7|apply zw8|apply zw9|apply zw10|apply zw11|apply zw13|apply zw14)|((with_reducible refine zw12 ?_ ?_);rfl)|((with_reducible refine zw16 ?_ ?_ (fun K' hK'=>?_));rfl;rfl;simp only [UN,LM,zn0,zn1,zi0,zi1,zi2,zn2,zn3,zn4,reduceCtorEq,TAS,TBS,Int.reduceBEq,List.length_map];(repeat (refine And.intro ?_ ?_;focus (clear hK';intros;simp_all;done)));(try (refine hK' _ _ ?_;clear hK' K')))|((with_reducible refine zw15 ?_ ?_);rfl;refine ⟨_,rfl,fun h=>?_,fun h=>?_⟩ <;> try exact absurd h (by decide)))
    refine swp_nil 6 20 1 rfl rfl (by decide) ?_
    simp only [UN,LM,zn0,zn1,zi0,zi1,zi2,zn2,zn3,zn4,reduceCtorEq]
    refine swp_nil 7 21 2 rfl rfl (by decide) ?_
    simp only [UN,LM,zn0,zn1,zi0,zi1,zi2,zn2,zn3,zn4,reduceCtorEq]
    refine swp_loop (α := Nat) (fun j=>[(9,.ref 11 0),(10,.ref 12 0),(18,.ref 16 0),(6,.own 20),(7,.own 21),(114,.d (.slc (yls.map sD))),(115,.d (iD yls.length)),(116,.d (iD j))])
      (fun j=>[(11,.cells [.d (iD 7),.d (iD xso),.d (.slc (xls.map sD)),.d (.slc (xto.map iD))]),(12,.cells [.d (iD yk),.d (iD yso),.d (.slc (yls.map sD)),.d (.slc (yto.map iD))]),(16,.cells [.d (iD 7),.d (iD xso),.d (.slc (xls.map sD)),.d (.slc (xto.map iD))]),(20,.row 1 ((yls.take j).map sD)),(21,.row 2 ((yls.take j).map fun l=>(lP l).d))])
      (fun j=>j ≤ yls.length ∧ (yls.all (fun l=>inL xls l) = (yls.drop j).all (fun l=>inL xls l))) (fun j=>yls.length - j) 0 ⟨Nat.zero_le _,rfl⟩ (by refine sub_of h0 ?_ ?_ ?_ <;> simp only [US,UN,LM,zn0,zn1,zi0,zi1,zi2,zn2,zn3,zn4,reduceCtorEq,TAS,TBS,List.take_zero,List.map_nil]) (fun j hj=>?_)
    obtain ⟨hj,hch⟩:=hj
    have hj0 : (0 : Int) ≤ (j : Int):=by omega
    by_cases hlt : j < yls.length
    · obtain ⟨x,hx⟩ : ∃ x,yls[j]? = some x:=⟨yls[j],by simp [hlt]⟩
      have hxm:=List.mem_of_getElem? hx
      have hxg : (yls.map sD).getD j default = sD x:=by simp [List.getD,hx]
      have hj1 : (j : Int) < (yls.length : Int):=by omega
      have hw2 : IntKind.i64.wrap ((j : Int) + 1) = ((j + 1 : Nat) : Int):=by rw [wrap_in (by omega) (by omega)];omega
      have hd : yls.drop j = x :: yls.drop (j + 1):=by
        obtain ⟨h1,h2⟩:=List.getElem?_eq_some_iff.1 hx
        rw [List.drop_eq_getElem_cons h1,h2]
      rw [hd,List.all_cons] at hch
      have hct : DFn Tryd.prog Γ 62 [.slc (xls.map sD),sD x] (.v (.bool (inL xls x))):=containsS_fn Γ xls x (by omega)
      cases hin : inL xls x with
      | false =>
        rw [hin] at hct
        have hall : yls.all (fun l=>inL xls l) = false:=by rw [hch,hin];rfl
        rw [hall] at hR
        rw [if_neg (by decide)] at hR
        subst hR
        repeat' (first|(with_reducible first|apply zw0|apply zw1|apply zw2|apply zw3|apply zw4|apply zw5|apply zw6|apply zw7|apply zw8|apply zw9|apply zw10|apply zw11|apply zw13|apply zw14)|((with_reducible refine zw12 ?_ ?_);rfl)|((with_reducible refine zw16 ?_ ?_ (fun K' hK'=>?_));rfl;rfl;simp only [UN,LM,zn0,zn1,zi0,zi1,zi2,zn2,zn3,zn4,reduceCtorEq,TAS,TBS,Int.toNat_natCast,hxg,hj0,hj1,List.length_map];(repeat (refine And.intro ?_ ?_;focus (clear hK';intros;simp_all;done)));(try (refine hK' _ _ ?_;clear hK' K')))|((with_reducible refine zw15 ?_ ?_);rfl;refine ⟨_,rfl,fun h=>?_,fun h=>?_⟩ <;> try exact absurd h (by decide)))
        refine stop_callF rfl (by simp only [UN,LM,zn0,zn1,zi0,zi1,zi2,zn2,zn3,zn4,reduceCtorEq]) rfl rfl (hct) ?_
        simp only [UN,LM,zn0,zn1,zi0,zi1,zi2,zn2,zn3,zn4,reduceCtorEq,TAS,TBS,inX,dropS,Bool.not_true,Bool.not_false,cond_true,cond_false]
        (repeat (refine And.intro ?_ ?_;focus (clear hK';intros;simp_all;done)))
        (try (refine hK' _ _ ?_;clear hK' K'))
        repeat' (first|(with_reducible first|apply zw0|apply zw1|apply zw2|apply zw3|apply zw4|apply zw5|apply zw6|apply zw7|apply zw8|apply zw9|apply zw10|apply zw11|apply zw13|apply zw14)|((with_reducible refine zw12 ?_ ?_);rfl)|((with_reducible refine zw16 ?_ ?_ (fun K' hK'=>?_));rfl;rfl;simp only [UN,LM,zn0,zn1,zi0,zi1,zi2,zn2,zn3,zn4,reduceCtorEq,TAS,TBS];(repeat (refine And.intro ?_ ?_;focus (clear hK';intros;simp_all;done)));(try (refine hK' _ _ ?_;clear hK' K')))|((with_reducible refine zw15 ?_ ?_);rfl;refine ⟨_,rfl,fun h=>?_,fun h=>?_⟩ <;> try exact absurd h (by decide)))
        simp only [Kret,retL,retOne,oneV,UN,LM,zn0,zn1,zi0,zi1,zi2,zn2,zn3,zn4,reduceCtorEq,TAS,TBS,meetA]
      | true =>
        rw [hin] at hct
        rw [hin,Bool.true_and] at hch
        have hxx : x ∈ xls:=inL_iff.1 hin
        have hxy : x ∈ yls:=hxm
        have rx:=ixL_mem hxx
        have ry:=ixL_mem hxy
        have hI : DFn Tryd.prog Γ 34 [.slc (xls.map sD),sD x] (iD (ixL x xls)):=indexS_fn Γ xls x (by omega)
        have hJ : DFn Tryd.prog Γ 34 [.slc (yls.map sD),sD x] (iD (ixL x yls)):=indexS_fn Γ yls x (by omega)
        have qx:=q0 xto (ixL x xls).toNat (by omega)
        have qy:=q0 yto (ixL x yls).toNat (by omega)
        have i0:=rx.1
        have k0:=ry.1
        have i1 : ixL x xls < (xto.length : Int):=by omega
        have k1 : ixL x yls < (yto.length : Int):=by omega
        have hm1 : (yls.take j).map sD ++ [sD x] = (yls.take (j + 1)).map sD:=by rw [List.take_add_one,hx];simp
        have hm2 : (yls.take j).map (fun l=>(lP l).d) ++ [.agg [iD (xto.getD (ixL x xls).toNat 0),iD (yto.getD (ixL x yls).toNat 0)]] = (yls.take (j + 1)).map fun l=>(lP l).d:=by rw [List.take_add_one,hx];simp [hlP,Pc.d]
        have hl1 : ((yls.take j).map sD).length = j:=by simp;omega
        have hl2 : ((yls.take j).map fun l=>(lP l).d).length = j:=by simp;omega
        obtain ⟨A1,hA1⟩ : ∃ A,(yls.take j).map sD = A:=⟨_,rfl⟩
        obtain ⟨A2,hA2⟩ : ∃ A,((yls.take j).map fun l=>(lP l).d) = A:=⟨_,rfl⟩
        rw [hA1] at hm1 hl1 ⊢
        rw [hA2] at hm2 hl2 ⊢
        have hn5 : (j + 1) * 16 ≤ 140737488355328:=by omega
        have hn6 : j + 1 ≤ maxLen:=by unfold maxLen;omega
        generalize xto.getD (ixL x xls).toNat 0 = XV at *
        generalize yto.getD (ixL x yls).toNat 0 = YV at *
        generalize ixL x xls = IX at *
        generalize ixL x yls = IY at *
        repeat' (first|(with_reducible first|apply zw0|apply zw1|apply zw2|apply zw3|apply zw4|apply zw5|apply zw6|apply zw7|apply zw8|apply zw9|apply zw10|apply zw11|apply zw13|apply zw14)|((with_reducible refine zw12 ?_ ?_);rfl)|((with_reducible refine zw16 ?_ ?_ (fun K' hK'=>?_));rfl;rfl;simp only [UN,LM,zn0,zn1,zi0,zi1,zi2,zn2,zn3,zn4,reduceCtorEq,TAS,TBS,Int.toNat_natCast,hxg,hj0,hj1,List.length_map];(repeat (refine And.intro ?_ ?_;focus (clear hK';intros;simp_all;done)));(try (refine hK' _ _ ?_;clear hK' K')))|((with_reducible refine zw15 ?_ ?_);rfl;refine ⟨_,rfl,fun h=>?_,fun h=>?_⟩ <;> try exact absurd h (by decide)))
        refine stop_callF rfl (by simp only [UN,LM,zn0,zn1,zi0,zi1,zi2,zn2,zn3,zn4,reduceCtorEq]) rfl rfl (hct) ?_
        simp only [UN,LM,zn0,zn1,zi0,zi1,zi2,zn2,zn3,zn4,reduceCtorEq,TAS,TBS,inX,dropS,Bool.not_true,Bool.not_false,cond_true,cond_false]
        (repeat (refine And.intro ?_ ?_;focus (clear hK';intros;simp_all;done)))
        (try (refine hK' _ _ ?_;clear hK' K'))
        repeat' (first|(with_reducible first|apply zw0|apply zw1|apply zw2|apply zw3|apply zw4|apply zw5|apply zw6|apply zw7|apply zw8|apply zw9|apply zw10|apply zw11|apply zw13|apply zw14)|((with_reducible refine zw12 ?_ ?_);rfl)|((with_reducible refine zw16 ?_ ?_ (fun K' hK'=>?_));rfl;rfl;simp only [UN,LM,zn0,zn1,zi0,zi1,zi2,zn2,zn3,zn4,reduceCtorEq,TAS,TBS,hl1,hn5,hn6,hm1];(repeat (refine And.intro ?_ ?_;focus (clear hK';intros;simp_all;done)));(try (refine hK' _ _ ?_;clear hK' K')))|((with_reducible refine zw15 ?_ ?_);rfl;refine ⟨_,rfl,fun h=>?_,fun h=>?_⟩ <;> try exact absurd h (by decide)))
        (with_reducible refine swp_drawX ?_ ?_ ?_ (⟨⟨[(6,iD IX),(14,iD IY)],[]⟩,[],[],[],[]⟩) _ rfl (fun K' hK' gops fin hgops hfin=>?_)
         · kernel_rfl
         · rfl
         · rfl
         repeat' first
           | (refine vcX_dead rfl trivial (by simp only [UN,LM,zn0,zn1,zi0,zi1,zi2,zn2,zn3,zn4,reduceCtorEq,TAS,TBS,Eff.env,Eff.st,jkE,jkS,UA,LM];rfl) (by simp only [List.nil_append,List.cons_append];rfl) (by simp only [zn2];rfl) ?_)
           | (refine vcX_step rfl rfl trivial (by simp only [UN,LM,zn0,zn1,zi0,zi1,zi2,zn2,zn3,zn4,reduceCtorEq,TAS,TBS,stepX,stepX1,frzR,stepX0,callN,storeE,dAll,setE,callM,mArgs,SV.calm,SV.calms,callB,callP,bArgs,hasR,hins,hin,yes,inX,stepW,callR,effO,srcE,Eff.env,Eff.st,writeOp,callA,pureOp,Bool.or_true,Bool.true_or,Bool.or_self,Bool.or_false,Bool.false_or,Bool.not_true,Bool.not_false,D.flat,D.flats,true_or,or_true,forall_const,UA,hI,hJ,i0,i1,k0,k1,qx,qy,hl2,hn5,hn6,hm2,List.length_map ];rfl) ?_ (by simp only [UN,LM,zn0,zn1,zi0,zi1,zi2,zn2,zn3,zn4,reduceCtorEq,TAS,TBS,Eff.env,Eff.st,jkE,jkS,UA,LM];rfl) (by simp only [UN,LM,zn0,zn1,zi0,zi1,zi2,zn2,zn3,zn4,reduceCtorEq,TAS,TBS,Eff.env,Eff.st,jkE,jkS,UA,LM];rfl) (by simp only [List.nil_append,List.cons_append];rfl) (by simp only [zn2];rfl) ?_;focus (first | trivial | ((repeat' (refine And.intro ?_ ?_)) <;> first | trivial | assumption | (clear hK' hfin hgops;intros;simp_all;done))))
         (refine vcX_nil (by subst hfin;kernel_rfl) ?_)
         clear hfin hgops fin gops
         (try (refine hK' _ _ ?_;clear hK' K')))
        repeat' (first|(with_reducible first|apply zw0|apply zw1|apply zw2|apply zw3|apply zw4|apply zw5|apply zw6|apply zw7|apply zw8|apply zw9|apply zw10|apply zw11|apply zw13|apply zw14)|((with_reducible refine zw12 ?_ ?_);rfl)|((with_reducible refine zw16 ?_ ?_ (fun K' hK'=>?_));rfl;rfl;simp only [UN,LM,zn0,zn1,zi0,zi1,zi2,zn2,zn3,zn4,reduceCtorEq,TAS,TBS,hw2];(repeat (refine And.intro ?_ ?_;focus (clear hK';intros;simp_all;done)));(try (refine hK' _ _ ?_;clear hK' K')))|((with_reducible refine zw15 ?_ ?_);rfl;refine ⟨_,rfl,fun h=>?_,fun h=>?_⟩ <;> try exact absurd h (by decide)))
        refine ⟨j + 1,⟨(by show j + 1 ≤ yls.length;omega),hch⟩,(by show yls.length - (j + 1) < yls.length - j;omega),by refine sub_of h0 ?_ ?_ ?_ <;> simp only [US,UN,LM,zn0,zn1,zi0,zi1,zi2,zn2,zn3,zn4,reduceCtorEq,TAS,TBS]⟩
    · have hj1 : ¬ (j : Int) < (yls.length : Int):=by omega
      rw [List.drop_of_length_le (by omega)] at hch
      rw [hch,List.all_nil,if_pos rfl] at hR
      subst hR
      rw [List.take_of_length_le (by omega)]
      have hA : meetA (some (yls.map fun l=>(l,lP l))) = .tup [.slc (yls.map sD),.slc (yls.map fun l=>(lP l).d),bD true]:=by simp [meetA,Function.comp_def]
      rw [hA]
      repeat' (first|(with_reducible first|apply zw0|apply zw1|apply zw2|apply zw3|apply zw4|apply zw5|apply zw6|apply zw7|apply zw8|apply zw9|apply zw10|apply zw11|apply zw13|apply zw14)|((with_reducible refine zw12 ?_ ?_);rfl)|((with_reducible refine zw16 ?_ ?_ (fun K' hK'=>?_));rfl;rfl;simp only [UN,LM,zn0,zn1,zi0,zi1,zi2,zn2,zn3,zn4,reduceCtorEq,TAS,TBS,hj1];(repeat (refine And.intro ?_ ?_;focus (clear hK';intros;simp_all;done)));(try (refine hK' _ _ ?_;clear hK' K')))|((with_reducible refine zw15 ?_ ?_);rfl;refine ⟨_,rfl,fun h=>?_,fun h=>?_⟩ <;> try exact absurd h (by decide)))
      simp only [Kret,retL,retOne,oneV,UN,LM,zn0,zn1,zi0,zi1,zi2,zn2,zn3,zn4,reduceCtorEq,TAS,TBS]
end Go.Proofs.YtgecnlcbdbaneaaDoor
