/- comply.at; a symbolic walk. -/
-- TYPESB
import Derived.Test.YtgecnlcbdbaneaaDoorTB
import Derived.Test.YtgecnlcbdbaneaaDoorH18
import Derived.Test.YtgecnlcbdbaneaaDoorSwD
set_option linter.unusedVariables false
set_option linter.unusedSimpArgs false
namespace Go.Proofs.YtgecnlcbdbaneaaDoor
open Go.RowKit Go.Sw
open Nat renaming reduceBEq → zn0, reduceLeDiff → zn1, reduceAdd → zn2, reduceSub → zn3, reduceMul → zn4
open Int renaming reduceLE → zi0, reduceLT → zi1, reduceToNat → zi2
open Go.Sw renaming swp_seq → zw0, swp_block → zw1, swp_skip → zw2, swp_ret → zw3, swp_exit → zw4, swp_label → zw5, kseq_n → zw6, kseq_x → zw7, kseq_r → zw8, kblk_n → zw9, kblk_r → zw10, kblk_xs → zw11, kblk_xn → zw12, kloop_x → zw13, kloop_r → zw14, swp_cond → zw15, swp_regionP → zw16

def swI (k i : Int) : Int:=if i = 0 then k else if i = k then 0 else i
def atNd (g : List Nd) (k : Int) (i : Nat) : Nd:=⟨(gAt g (swI k i)).k,(gAt g (swI k i)).so,(gAt g (swI k i)).ls,(gAt g (swI k i)).to.map (swI k)⟩
def atP (g : List Nd) (k : Int) : List Nd:=(List.range g.length).map (atNd g k)
theorem info72 : ∃ i,Tryd.prog.info? 82 = some i ∧ i.zero = some (.agg #[.int .i64 0,.int .i64 0,.slice none 0 0,.slice none 0 0]) ∧ i.size = 4 ∧ i.bytes = 64:=by
  have h : (Tryd.prog.info? 82).map (fun i=>(i.zero,i.size,i.bytes)) = some (some (.agg #[.int .i64 0,.int .i64 0,.slice none 0 0,.slice none 0 0]),4,64):=by kernel_rfl
  obtain ⟨i,hi,hz⟩:=Option.map_eq_some_iff.1 h
  simp only [Prod.mk.injEq] at hz
  exact ⟨i,hi,hz.1,hz.2.1,hz.2.2⟩
set_option maxHeartbeats 4000000 in
set_option maxRecDepth 100000 in
theorem at1_fn (Γ : Gl) (k i : Int) : SFn Tryd.prog Γ 84 [.d (iD i),.fptr (iD k) 0] [] (.d (iD (swI k i))) []:=by
  unfold swI
  by_cases h0' : i = 0
  · rw [if_pos h0']
    subst h0'
    refine sfn_of_swp (N:=12) Tryd.func84 rfl (by decide) rfl rfl (by simp) (fun C h0=>?_)
    simp only [argS]
    repeat' (first|(with_reducible first|apply zw0|apply zw1|apply zw2|apply zw3|apply zw4|apply zw5|apply zw6|apply zw7|apply zw8|apply zw9|apply zw10|apply zw11|apply zw13|apply zw14)|((with_reducible refine zw12 ?_ ?_);rfl)|((with_reducible refine zw16 ?_ ?_ (fun K' hK'=>?_));rfl;rfl;simp only [UN,LM,zn0,zn1,zi0,zi1,zi2,zn2,zn3,zn4,reduceCtorEq,TAS,TBS,Int.reduceBEq];(repeat (refine And.intro ?_ ?_;focus (clear hK';intros;simp_all;done)));(try (refine hK' _ _ ?_;clear hK' K')))|((with_reducible refine zw15 ?_ ?_);rfl;refine ⟨_,rfl,fun h=>?_,fun h=>?_⟩ <;> try exact absurd h (by decide)))
    simp only [KretS,retL,retOne,oneV,US,UN,LM,zn0,zn1,zi0,zi1,zi2,zn2,zn3,zn4,reduceCtorEq,TAS,TBS,h0]
  · rw [if_neg h0']
    have g0 : (i == 0) = false:=by simpa using h0'
    by_cases hk : i = k
    · subst hk
      rw [if_pos rfl]
      refine sfn_of_swp (N:=12) Tryd.func84 rfl (by decide) rfl rfl (by simp) (fun C h0=>?_)
      simp only [argS]
      repeat' (first|(with_reducible first|apply zw0|apply zw1|apply zw2|apply zw3|apply zw4|apply zw5|apply zw6|apply zw7|apply zw8|apply zw9|apply zw10|apply zw11|apply zw13|apply zw14)|((with_reducible refine zw12 ?_ ?_);rfl)|((with_reducible refine zw16 ?_ ?_ (fun K' hK'=>?_));rfl;rfl;simp only [UN,LM,zn0,zn1,zi0,zi1,zi2,zn2,zn3,zn4,reduceCtorEq,TAS,TBS,g0,beq_self_eq_true];(repeat (refine And.intro ?_ ?_;focus (clear hK';intros;simp_all;done)));(try (refine hK' _ _ ?_;clear hK' K')))|((with_reducible refine zw15 ?_ ?_);rfl;refine ⟨_,rfl,fun h=>?_,fun h=>?_⟩ <;> try exact absurd h (by decide)))
      simp only [KretS,retL,retOne,oneV,US,UN,LM,zn0,zn1,zi0,zi1,zi2,zn2,zn3,zn4,reduceCtorEq,TAS,TBS,h0]
    · rw [if_neg hk]
      have gk : (i == k) = false:=by simpa using hk
      refine sfn_of_swp (N:=12) Tryd.func84 rfl (by decide) rfl rfl (by simp) (fun C h0=>?_)
      simp only [argS]
      repeat' (first|(with_reducible first|apply zw0|apply zw1|apply zw2|apply zw3|apply zw4|apply zw5|apply zw6|apply zw7|apply zw8|apply zw9|apply zw10|apply zw11|apply zw13|apply zw14)|((with_reducible refine zw12 ?_ ?_);rfl)|((with_reducible refine zw16 ?_ ?_ (fun K' hK'=>?_));rfl;rfl;simp only [UN,LM,zn0,zn1,zi0,zi1,zi2,zn2,zn3,zn4,reduceCtorEq,TAS,TBS,g0,gk];(repeat (refine And.intro ?_ ?_;focus (clear hK';intros;simp_all;done)));(try (refine hK' _ _ ?_;clear hK' K')))|((with_reducible refine zw15 ?_ ?_);rfl;refine ⟨_,rfl,fun h=>?_,fun h=>?_⟩ <;> try exact absurd h (by decide)))
      simp only [KretS,retL,retOne,oneV,US,UN,LM,zn0,zn1,zi0,zi1,zi2,zn2,zn3,zn4,reduceCtorEq,TAS,TBS,h0]
theorem swI_range {g : List Nd} {k i : Int} (h0 : 0 < g.length) (hk : 0 ≤ k ∧ k < (g.length : Int)) (hi : 0 ≤ i ∧ i < (g.length : Int)) : 0 ≤ swI k i ∧ swI k i < (g.length : Int):=by
  unfold swI
  split
  · exact hk
  · split
    · omega
    · exact hi
abbrev dz72 : D:=.agg [iD 0,iD 0,.slc [],.slc []]
set_option maxHeartbeats 8000000 in
set_option maxRecDepth 100000 in
theorem at_fn (Γ : Gl) (g : List Nd) (k : Int) (h250 : g.length ≤ 250) (hpos : 0 < g.length) (hk : 0 ≤ k ∧ k < (g.length : Int)) (hg : ∀ n ∈ g,NdG g.length n) : DFn Tryd.prog Γ 73 [.slc (g.map Nd.d),iD k] (.slc ((atP g k).map Nd.d)):=by
  obtain ⟨i72,hi72,hz72,hs72,hb72⟩:=info72
  have hcl:=at1_fn Γ k
  refine fn_of_swp (N:=54) Tryd.func73 rfl (by decide) rfl rfl (by simp) (fun C h0=>?_)
  simp only [argE]
  refine zw0 ?_
  refine swp_midK [(0,.d (.slc (g.map Nd.d))),(3,.fptr (iD k) 0)] [] ?_ ?_
  · repeat' (first|(with_reducible first|apply zw0|apply zw1|apply zw2|apply zw3|apply zw4|apply zw5|apply zw6|apply zw7|apply zw8|apply zw9|apply zw10|apply zw11|apply zw13|apply zw14)|((with_reducible refine zw12 ?_ ?_);rfl)|((with_reducible refine zw16 ?_ ?_ (fun K' hK'=>?_));rfl;rfl;simp only [UN,LM,zn0,zn1,zi0,zi1,zi2,zn2,zn3,zn4,reduceCtorEq,TAS,TBS];(repeat (refine And.intro ?_ ?_;focus (clear hK';intros;simp_all;done)));(try (refine hK' _ _ ?_;clear hK' K')))|((with_reducible refine zw15 ?_ ?_);rfl;refine ⟨_,rfl,fun h=>?_,fun h=>?_⟩ <;> try exact absurd h (by decide)))
    refine ⟨rfl,?_⟩
    refine sub_of h0 ?_ ?_ ?_ <;> simp only [US,UN,LM,zn0,zn1,zi0,zi1,zi2,zn2,zn3,zn4,reduceCtorEq,TAS,TBS]
  repeat' (first|(with_reducible first|apply zw0|apply zw1|apply zw2|apply zw3|apply zw4|apply zw5|apply zw6|apply zw7|apply zw8|apply zw9|apply zw10|apply zw11|apply zw13|apply zw14)|((with_reducible refine zw12 ?_ ?_);rfl)|((with_reducible refine zw16 ?_ ?_ (fun K' hK'=>?_));rfl;rfl;simp only [UN,LM,zn0,zn1,zi0,zi1,zi2,zn2,zn3,zn4,reduceCtorEq,TAS,TBS,List.length_map];(repeat (refine And.intro ?_ ?_;focus (clear hK';intros;simp_all;done)));(try (refine hK' _ _ ?_;clear hK' K')))|((with_reducible refine zw15 ?_ ?_);rfl;refine ⟨_,rfl,fun h=>?_,fun h=>?_⟩ <;> try exact absurd h (by decide)))
  refine stop_makeK (n:=g.length) (k:=4) (dz:=dz72) (zs:=[.int .i64 0,.int .i64 0,.slice none 0 0,.slice none 0 0]) rfl un26 hi72 hz72 hs72 (by decide) rfl rfl rfl (fun w M=>.dsc (.v _ rfl) (.dsc (.v _ rfl) (.dsc (.slc0 _ _) (.dsc (.slc0 _ _) .dsn)))) (by decide) rfl rfl (by rw [hb72];omega) (by unfold maxLen;omega) rfl ?_
  simp only [UN,LM,zn0,zn1,zi0,zi1,zi2,zn2,zn3,zn4,reduceCtorEq,TAS,TBS]
  (try (refine hK' _ _ ?_;clear hK' K'))
  repeat' (first|(with_reducible first|apply zw0|apply zw1|apply zw2|apply zw3|apply zw4|apply zw5|apply zw6|apply zw7|apply zw8|apply zw9|apply zw10|apply zw11|apply zw13|apply zw14)|((with_reducible refine zw12 ?_ ?_);rfl)|((with_reducible refine zw16 ?_ ?_ (fun K' hK'=>?_));rfl;rfl;simp only [UN,LM,zn0,zn1,zi0,zi1,zi2,zn2,zn3,zn4,reduceCtorEq,TAS,TBS,List.length_map];(repeat (refine And.intro ?_ ?_;focus (clear hK';intros;simp_all;done)));(try (refine hK' _ _ ?_;clear hK' K')))|((with_reducible refine zw15 ?_ ?_);rfl;refine ⟨_,rfl,fun h=>?_,fun h=>?_⟩ <;> try exact absurd h (by decide)))
  refine swp_loop (α := Nat) (fun i=>[(0,.d (.slc (g.map Nd.d))),(5,.clo 84 [.fptr (iD k) 0]),(6,.own 0),(16,.d (.slc (g.map Nd.d))),(17,.d (iD g.length)),(18,.d (iD i))]) (fun i=>[(0,.row 4 ((List.range i).map (fun j=>(atNd g k j).d) ++ List.replicate (g.length - i) dz72))])
    (fun i=>i ≤ g.length) (fun i=>g.length - i) 0 (Nat.zero_le _) (by refine sub_of h0 ?_ ?_ ?_ <;> simp only [US,UN,LM,zn0,zn1,zi0,zi1,zi2,zn2,zn3,zn4,reduceCtorEq,TAS,TBS,List.range_zero,List.map_nil,Nat.sub_zero]) (fun i hi=>?_)
  have hi : i ≤ g.length:=hi
  have hb0 : (0 : Int) ≤ (i : Int):=by omega
  by_cases hlt : i < g.length
  · have hb1 : (i : Int) < (g.length : Int):=by omega
    have hw3 : IntKind.i64.wrap ((i : Int) + 1) = ((i + 1 : Nat) : Int):=by rw [wrap_in (by omega) (by omega)];omega
    have hcall:=hcl (i : Int)
    have hsr:=swI_range hpos hk ⟨hb0,hb1⟩
    have hx : (g.map Nd.d).getD (swI k i).toNat default = (gAt g (swI k i)).d:=gAt_d hsr.1 hsr.2
    have hok:=(hg _ (gAt_mem hsr.1 hsr.2)).ok
    have hto:=hok.to
    have hr:=hok.r
    have hat : (atNd g k i).d = .agg [iD (gAt g (swI k i)).k,iD (gAt g (swI k i)).so,.slc ((gAt g (swI k i)).ls.map sD),.slc (((gAt g (swI k i)).to.map (swI k)).map iD)]:=rfl
    have hML : ((List.range i).map (fun j=>(atNd g k j).d) ++ List.replicate (g.length - i) dz72).length = g.length:=by simp;omega
    have hMg : ((List.range i).map (fun j=>(atNd g k j).d) ++ List.replicate (g.length - i) dz72).getD i default = dz72:=by
      rw [List.getD_eq_getElem?_getD,List.getElem?_append_right (by simp),List.length_map,List.length_range,Nat.sub_self,List.getElem?_replicate,if_pos (by omega)]
      rfl
    have hMs : ((List.range i).map (fun j=>(atNd g k j).d) ++ List.replicate (g.length - i) dz72).set i (atNd g k i).d = (List.range (i + 1)).map (fun j=>(atNd g k j).d) ++ List.replicate (g.length - (i + 1)) dz72:=by
      rw [show g.length - i = (g.length - (i + 1)) + 1 by omega,List.replicate_succ,List.set_append_right _ _ (by simp),List.length_map,List.length_range,Nat.sub_self,List.set_cons_zero,List.range_succ,List.map_append,List.append_assoc]
      rfl
    rw [hat] at hMs
    obtain ⟨M,hM⟩ : ∃ M,(List.range i).map (fun j=>(atNd g k j).d) ++ List.replicate (g.length - i) dz72 = M:=⟨_,rfl⟩
    rw [hM] at hML hMg hMs ⊢
    generalize gAt g (swI k i) = X at *
    obtain ⟨xk,xso,xls,xto⟩:=X
    simp only [Nd.d] at hx
    simp only at hto hr hMs
    obtain ⟨q,hq⟩ : ∃ q,swI k i = q:=⟨_,rfl⟩
    rw [hq] at hcall hsr hx
    have hs0:=hsr.1
    have hs1:=hsr.2
    repeat' (first|(with_reducible first|apply zw0|apply zw1|apply zw2|apply zw3|apply zw4|apply zw5|apply zw6|apply zw7|apply zw8|apply zw9|apply zw10|apply zw11|apply zw13|apply zw14)|((with_reducible refine zw12 ?_ ?_);rfl)|((with_reducible refine zw16 ?_ ?_ (fun K' hK'=>?_));rfl;rfl;simp only [UN,LM,zn0,zn1,zi0,zi1,zi2,zn2,zn3,zn4,reduceCtorEq,TAS,TBS,List.length_map,hb1];(repeat (refine And.intro ?_ ?_;focus (clear hK';intros;simp_all;done)));(try (refine hK' _ _ ?_;clear hK' K')))|((with_reducible refine zw15 ?_ ?_);rfl;refine ⟨_,rfl,fun h=>?_,fun h=>?_⟩ <;> try exact absurd h (by decide)))
    refine stop_callV rfl rfl (by simp only [UN,LM,zn0,zn1,zi0,zi1,zi2,zn2,zn3,zn4,reduceCtorEq]) (by simp only [argF,argOne,hin,hins,UN,LM,zn0,zn1,zi0,zi1,zi2,zn2,zn3,zn4,reduceCtorEq,Option.isSome_some]) (by simp only [subC,UN,LM,zn0,zn1,zi0,zi1,zi2,zn2,zn3,zn4,reduceCtorEq]) (by simp only [hinB,hin,hins,UN,LM,zn0,zn1,zi0,zi1,zi2,zn2,zn3,zn4,reduceCtorEq,Option.isSome_some]) (by simp only [sameD,newS,lk,nbeq,zn0,cond_false,cond_true,Option.isNone_none,and_self,true_and,and_true]) (hcall ) ?_
    simp only [UN,LM,zn0,zn1,zi0,zi1,zi2,zn2,zn3,zn4,reduceCtorEq,TAS,TBS,UM,  hs0,hs1,hx,List.length_map]
    (try (refine hK' _ _ ?_;clear hK' K'))
    refine zw6 ?_
    refine zw0 ?_
    (with_reducible refine swp_region ?_ (fun K' hK'=>?_)
     · rfl
     simp only [UN,LM,zn0,zn1,zi0,zi1,zi2,zn2,zn3,zn4,reduceCtorEq,TAS,TBS]
     (repeat (refine And.intro ?_ ?_;focus (clear hK';intros;simp_all;done))))
    refine hK' _ _ ?_
    clear hK' K'
    refine zw6 ?_
    refine swp_nil 9 2 1 rfl rfl (by decide) ?_
    simp only [UN,LM,zn0,zn1,zi0,zi1,zi2,zn2,zn3,zn4,reduceCtorEq]
    repeat' (first|(with_reducible first|apply zw0|apply zw1|apply zw2|apply zw3|apply zw4|apply zw5|apply zw6|apply zw7|apply zw8|apply zw9|apply zw10|apply zw11|apply zw13|apply zw14)|((with_reducible refine zw12 ?_ ?_);rfl)|((with_reducible refine zw16 ?_ ?_ (fun K' hK'=>?_));rfl;rfl;simp only [UN,LM,zn0,zn1,zi0,zi1,zi2,zn2,zn3,zn4,reduceCtorEq,TAS,TBS,List.length_map];(repeat (refine And.intro ?_ ?_;focus (clear hK';intros;simp_all;done)));(try (refine hK' _ _ ?_;clear hK' K')))|((with_reducible refine zw15 ?_ ?_);rfl;refine ⟨_,rfl,fun h=>?_,fun h=>?_⟩ <;> try exact absurd h (by decide)))
    refine swp_loop (α := Nat) (fun j=>[(0,.d (.slc (g.map Nd.d))),(5,.clo 84 [.fptr (iD k) 0]),(6,.own 0),(16,.d (.slc (g.map Nd.d))),(17,.d (iD g.length)),(18,.d (iD i)),(7,.d (iD i)),(8,.ref 1 0),(9,.own 2),(28,.d (.slc (xto.map iD))),(29,.d (iD xto.length)),(30,.d (iD j))])
      (fun j=>[(0,.row 4 M),(1,.cells [.d (iD xk),.d (iD xso),.d (.slc (xls.map sD)),.d (.slc (xto.map iD))]),(2,.row 1 (((xto.take j).map (swI k)).map iD))])
      (fun j=>j ≤ xto.length) (fun j=>xto.length - j) 0 (Nat.zero_le _) (by refine sub_of h0 ?_ ?_ ?_ <;> simp only [US,UN,LM,zn0,zn1,zi0,zi1,zi2,zn2,zn3,zn4,reduceCtorEq,TAS,TBS,List.take_zero,List.map_nil]) (fun j hj=>?_)
    have hj : j ≤ xto.length:=hj
    have hj0 : (0 : Int) ≤ (j : Int):=by omega
    by_cases hjl : j < xto.length
    · obtain ⟨y,hy⟩ : ∃ y,xto[j]? = some y:=⟨xto[j],by simp [hjl]⟩
      have hyg : (xto.map iD).getD j default = iD y:=by simp [List.getD,hy]
      have hj1 : (j : Int) < (xto.length : Int):=by omega
      have hw2 : IntKind.i64.wrap ((j : Int) + 1) = ((j + 1 : Nat) : Int):=by rw [wrap_in (by omega) (by omega)];omega
      have hcy:=hcl y
      have hm : ((xto.take j).map (swI k)).map iD ++ [iD (swI k y)] = ((xto.take (j + 1)).map (swI k)).map iD:=by
        rw [List.take_add_one,hy];simp
      have hml : (((xto.take j).map (swI k)).map iD).length = j:=by simp;omega
      obtain ⟨A,hA⟩ : ∃ A,((xto.take j).map (swI k)).map iD = A:=⟨_,rfl⟩
      rw [hA] at hm hml ⊢
      obtain ⟨r,hrr⟩ : ∃ r,swI k y = r:=⟨_,rfl⟩
      rw [hrr] at hcy hm
      have hn5 : (j + 1) * 8 ≤ 140737488355328:=by omega
      have hn6 : j + 1 ≤ maxLen:=by unfold maxLen;omega
      repeat' (first|(with_reducible first|apply zw0|apply zw1|apply zw2|apply zw3|apply zw4|apply zw5|apply zw6|apply zw7|apply zw8|apply zw9|apply zw10|apply zw11|apply zw13|apply zw14)|((with_reducible refine zw12 ?_ ?_);rfl)|((with_reducible refine zw16 ?_ ?_ (fun K' hK'=>?_));rfl;rfl;simp only [UN,LM,zn0,zn1,zi0,zi1,zi2,zn2,zn3,zn4,reduceCtorEq,TAS,TBS,Int.toNat_natCast,hyg,hj0,hj1,List.length_map];(repeat (refine And.intro ?_ ?_;focus (clear hK';intros;simp_all;done)));(try (refine hK' _ _ ?_;clear hK' K')))|((with_reducible refine zw15 ?_ ?_);rfl;refine ⟨_,rfl,fun h=>?_,fun h=>?_⟩ <;> try exact absurd h (by decide)))
      refine stop_callV rfl rfl (by simp only [UN,LM,zn0,zn1,zi0,zi1,zi2,zn2,zn3,zn4,reduceCtorEq]) (by simp only [argF,argOne,hin,hins,UN,LM,zn0,zn1,zi0,zi1,zi2,zn2,zn3,zn4,reduceCtorEq,Option.isSome_some]) (by simp only [subC,UN,LM,zn0,zn1,zi0,zi1,zi2,zn2,zn3,zn4,reduceCtorEq]) (by simp only [hinB,hin,hins,UN,LM,zn0,zn1,zi0,zi1,zi2,zn2,zn3,zn4,reduceCtorEq,Option.isSome_some]) (by simp only [sameD,newS,lk,nbeq,zn0,cond_false,cond_true,Option.isNone_none,and_self,true_and,and_true]) (hcy ) ?_
      simp only [UN,LM,zn0,zn1,zi0,zi1,zi2,zn2,zn3,zn4,reduceCtorEq,TAS,TBS,UM,  hml,hn5,hn6,hm]
      (try (refine hK' _ _ ?_;clear hK' K'))
      repeat' (first|(with_reducible first|apply zw0|apply zw1|apply zw2|apply zw3|apply zw4|apply zw5|apply zw6|apply zw7|apply zw8|apply zw9|apply zw10|apply zw11|apply zw13|apply zw14)|((with_reducible refine zw12 ?_ ?_);rfl)|((with_reducible refine zw16 ?_ ?_ (fun K' hK'=>?_));rfl;rfl;simp only [UN,LM,zn0,zn1,zi0,zi1,zi2,zn2,zn3,zn4,reduceCtorEq,TAS,TBS,hw2];(repeat (refine And.intro ?_ ?_;focus (clear hK';intros;simp_all;done)));(try (refine hK' _ _ ?_;clear hK' K')))|((with_reducible refine zw15 ?_ ?_);rfl;refine ⟨_,rfl,fun h=>?_,fun h=>?_⟩ <;> try exact absurd h (by decide)))
      refine ⟨j + 1,(by show j + 1 ≤ xto.length;omega),(by show xto.length - (j + 1) < xto.length - j;omega),by refine sub_of h0 ?_ ?_ ?_ <;> simp only [US,UN,LM,zn0,zn1,zi0,zi1,zi2,zn2,zn3,zn4,reduceCtorEq,TAS,TBS]⟩
    · have hj1 : ¬ (j : Int) < (xto.length : Int):=by omega
      rw [List.take_of_length_le (by omega)]
      refine swp_frz [2] h0 (by simp only [Option.isSome_some,SV.frz,SV.frzs,Box.frz,frzE,frzS,inX,keepS,UN,LM,zn0,zn1,zi0,zi1,zi2,zn2,zn3,zn4,reduceCtorEq]) ?_
      simp only [UN,LM,zn0,zn1,zi0,zi1,zi2,zn2,zn3,zn4,reduceCtorEq,TAS,TBS,SV.frz,SV.frzs,Box.frz,frzE,frzS,inX,keepS]
      repeat' (first|(with_reducible first|apply zw0|apply zw1|apply zw2|apply zw3|apply zw4|apply zw5|apply zw6|apply zw7|apply zw8|apply zw9|apply zw10|apply zw11|apply zw13|apply zw14)|((with_reducible refine zw12 ?_ ?_);rfl)|((with_reducible refine zw16 ?_ ?_ (fun K' hK'=>?_));rfl;rfl;simp only [UN,LM,zn0,zn1,zi0,zi1,zi2,zn2,zn3,zn4,reduceCtorEq,TAS,TBS,hj1,Int.toNat_natCast,hb0,hb1,hML,hMg];(repeat (refine And.intro ?_ ?_;focus (clear hK';intros;simp_all;done)));(try (refine hK' _ _ ?_;clear hK' K')))|((with_reducible refine zw15 ?_ ?_);rfl;refine ⟨_,rfl,fun h=>?_,fun h=>?_⟩ <;> try exact absurd h (by decide)))
      refine stop_sE rfl (by simp only [UN,LM,zn0,zn1,zi0,zi1,zi2,zn2,zn3,zn4,reduceCtorEq,TAS,TBS,storeE,setE,dAll,Option.map_some,hMg,hMs];rfl) ?_ ?_
      · first | trivial | ((repeat' (refine And.intro ?_ ?_)) <;> first | trivial | assumption | (clear hK';intros;simp_all;done))
      simp only [UN,LM,zn0,zn1,zi0,zi1,zi2,zn2,zn3,zn4,reduceCtorEq,TAS,TBS,hMg,hMs]
      (repeat (refine And.intro ?_ ?_;focus (clear hK';intros;simp_all;done)))
      (try (refine hK' _ _ ?_;clear hK' K'))
      -- TRACE
      repeat' (first|(with_reducible first|apply zw0|apply zw1|apply zw2|apply zw3|apply zw4|apply zw5|apply zw6|apply zw7|apply zw8|apply zw9|apply zw10|apply zw11|apply zw13|apply zw14)|((with_reducible refine zw12 ?_ ?_);rfl)|((with_reducible refine zw16 ?_ ?_ (fun K' hK'=>?_));rfl;rfl;simp only [UN,LM,zn0,zn1,zi0,zi1,zi2,zn2,zn3,zn4,reduceCtorEq,TAS,TBS,hw3];(repeat (refine And.intro ?_ ?_;focus (clear hK';intros;simp_all;done)));(try (refine hK' _ _ ?_;clear hK' K')))|((with_reducible refine zw15 ?_ ?_);rfl;refine ⟨_,rfl,fun h=>?_,fun h=>?_⟩ <;> try exact absurd h (by decide)))
      refine ⟨i + 1,(by show i + 1 ≤ g.length;omega),(by show g.length - (i + 1) < g.length - i;omega),by refine sub_of h0 ?_ ?_ ?_ <;> simp only [US,UN,LM,zn0,zn1,zi0,zi1,zi2,zn2,zn3,zn4,reduceCtorEq,TAS,TBS]⟩
  · have hb1 : ¬ (i : Int) < (g.length : Int):=by omega
    have hie : i = g.length:=by omega
    subst hie
    have he : (List.range g.length).map (fun j=>(atNd g k j).d) ++ List.replicate (g.length - g.length) dz72 = (atP g k).map Nd.d:=by simp [atP]
    rw [he]
    repeat' (first|(with_reducible first|apply zw0|apply zw1|apply zw2|apply zw3|apply zw4|apply zw5|apply zw6|apply zw7|apply zw8|apply zw9|apply zw10|apply zw11|apply zw13|apply zw14)|((with_reducible refine zw12 ?_ ?_);rfl)|((with_reducible refine zw16 ?_ ?_ (fun K' hK'=>?_));rfl;rfl;simp only [UN,LM,zn0,zn1,zi0,zi1,zi2,zn2,zn3,zn4,reduceCtorEq,TAS,TBS,hb1];(repeat (refine And.intro ?_ ?_;focus (clear hK';intros;simp_all;done)));(try (refine hK' _ _ ?_;clear hK' K')))|((with_reducible refine zw15 ?_ ?_);rfl;refine ⟨_,rfl,fun h=>?_,fun h=>?_⟩ <;> try exact absurd h (by decide)))
    simp only [Kret,retL,retOne,oneV,UN,LM,zn0,zn1,zi0,zi1,zi2,zn2,zn3,zn4,reduceCtorEq,TAS,TBS]
end Go.Proofs.YtgecnlcbdbaneaaDoor
