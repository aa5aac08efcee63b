/- graph.parted; a symbolic walk. -/
import Derived.Test.YtgecnlcbdbaneaaDoorHP
-- TYPESA
set_option linter.unusedVariables false
set_option linter.unusedSimpArgs false
namespace Go.Proofs.YtgecnlcbdbaneaaDoor
open Go.RowKit Go.Sw
open Nat renaming reduceBEq → zn0, reduceLeDiff → zn1, reduceAdd → zn2, reduceSub → zn3, reduceMul → zn4
open Int renaming reduceLE → zi0, reduceLT → zi1, reduceToNat → zi2
open Go.Sw renaming swp_seq → zw0, swp_block → zw1, swp_skip → zw2, swp_ret → zw3, swp_exit → zw4, swp_label → zw5, kseq_n → zw6, kseq_x → zw7, kseq_r → zw8, kblk_n → zw9, kblk_r → zw10, kblk_xs → zw11, kblk_xn → zw12, kloop_x → zw13, kloop_r → zw14, swp_cond → zw15, swp_regionP → zw16

theorem info3 : ∃ i,Tryd.prog.info? 3 = some i ∧ i.zero = some (.int .i64 0) ∧ i.size = 1 ∧ i.bytes = 8:=by
  have h : (Tryd.prog.info? 3).map (fun i=>(i.zero,i.size,i.bytes)) = some (some (.int .i64 0),1,8):=by kernel_rfl
  obtain ⟨i,hi,hz⟩:=Option.map_eq_some_iff.1 h
  simp only [Prod.mk.injEq] at hz
  exact ⟨i,hi,hz.1,hz.2.1,hz.2.2⟩
theorem numS_size3 {n : Int} (h1 : n < 1000) : (numS n).size ≤ 3:=by
  unfold numS packS
  show (Lib.decDigits n.toNat).toArray.size ≤ 3
  by_cases h : n.toNat < 10
  · rw [Lib.decDigits_one h];simp
  · by_cases h2 : n.toNat < 100
    · rw [Lib.decDigits_two h h2];simp
    · rw [Lib.decDigits,dif_neg h,Lib.decDigits_two (by omega) (by omega)];simp
set_option maxHeartbeats 8000000 in
set_option maxRecDepth 100000 in
theorem parted_fn (Γ : Gl) (M : Nat) (hM : 100 ≤ M) (hM2 : M ≤ 250) (hI : ∀ n : Int,0 ≤ n → n < (M : Int) → DFn Tryd.prog Γ 83 [iD n] (sD (numS n))) (g : List Nd) (hg : g.length ≤ M) (hn : ∀ x ∈ g,NdOK g.length x)
    (hgrow : ∀ cl : List Int,cl.length = g.length → (∀ c ∈ cl,0 ≤ c ∧ c < (M : Int)) → (allK (keysF cl 0 g)).length ≤ (allK (keysF (nxtK (keysF cl 0 g)) 0 g)).length) :
    DFn Tryd.prog Γ 71 [.slc (g.map Nd.d)] (.slc ((partedP g).map iD)):=by
  obtain ⟨i3,hi3,hz3,hs3,hb3⟩:=info3
  refine fn_of_swp (N:=101) Tryd.func71 rfl (by decide) rfl rfl (by simp) (fun C h0=>?_)
  simp only [argE]
  repeat' (first|(with_reducible first|apply zw0|apply zw1|apply zw2|apply zw3|apply zw4|apply zw5|apply zw6|apply zw7|apply zw8|apply zw9|apply zw10|apply zw11|apply zw13|apply zw14)|((with_reducible refine zw12 ?_ ?_);rfl)|((with_reducible refine zw16 ?_ ?_ (fun K' hK'=>?_));rfl;rfl;simp only [UN,LM,zn0,zn1,zi0,zi1,zi2,zn2,zn3,zn4,reduceCtorEq,TAS,List.length_map];(repeat (refine And.intro ?_ ?_;focus (clear hK';intros;simp_all;done)));(try (refine hK' _ _ ?_;clear hK' K')))|((with_reducible refine zw15 ?_ ?_);rfl;refine ⟨_,rfl,fun h=>?_,fun h=>?_⟩ <;> try exact absurd h (by decide)))
  refine stop_make (n:=g.length) rfl un50 hi3 hz3 hs3 rfl rfl rfl rfl (by rw [hb3];omega) (by unfold maxLen;omega) rfl ?_
  simp only [UN,LM,zn0,zn1,zi0,zi1,zi2,zn2,zn3,zn4,reduceCtorEq,TAS]
  (repeat (refine And.intro ?_ ?_;focus (clear hK';intros;simp_all;done)))
  (try (refine hK' _ _ ?_;clear hK' K'))
  repeat' (first|(with_reducible first|apply zw0|apply zw1|apply zw2|apply zw3|apply zw4|apply zw5|apply zw6|apply zw7|apply zw8|apply zw9|apply zw10|apply zw11|apply zw13|apply zw14)|((with_reducible refine zw12 ?_ ?_);rfl)|((with_reducible refine zw16 ?_ ?_ (fun K' hK'=>?_));rfl;rfl;simp only [UN,LM,zn0,zn1,zi0,zi1,zi2,zn2,zn3,zn4,reduceCtorEq,TAS];(repeat (refine And.intro ?_ ?_;focus (clear hK';intros;simp_all;done)));(try (refine hK' _ _ ?_;clear hK' K')))|((with_reducible refine zw15 ?_ ?_);rfl;refine ⟨_,rfl,fun h=>?_,fun h=>?_⟩ <;> try exact absurd h (by decide)))
  refine swp_loop (α := List Int × Nat) (fun q=>[(0,.d (.slc (g.map Nd.d))),(3,.d (.slc (q.1.map iD))),(4,.d (iD q.2))]) (fun _=>[])
    (fun q=>q.1.length = g.length ∧ (∀ c ∈ q.1,0 ≤ c ∧ c < (M : Int)) ∧ q.2 ≤ (allK (keysF q.1 0 g)).length ∧ ∃ f,g.length + 1 - q.2 ≤ f ∧ partedP g = partF g f q.1 q.2) (fun q=>g.length + 1 - q.2)
    (List.replicate g.length 0,0) ⟨by simp,(fun c hc=>by rw [List.eq_of_mem_replicate hc];exact ⟨Int.le_refl _,by omega⟩),Nat.zero_le _,_,Nat.le_refl _,rfl⟩ (by refine sub_of h0 ?_ ?_ ?_ <;> simp only [US,UN,LM,zn0,zn1,zi0,zi1,zi2,zn2,zn3,zn4,reduceCtorEq,TAS,List.map_replicate]) (fun q hq=>?_)
  obtain ⟨cl,many⟩:=q
  obtain ⟨hcl,hcr,hmany,f,hf,hpt⟩:=hq
  simp only at hcl hcr hmany hf hpt
  obtain ⟨ks,hks⟩ : ∃ ks,keysF cl 0 g = ks:=⟨_,rfl⟩
  have hksn : ks.length = g.length:=by rw [← hks];exact keysF_len cl g 0
  have hak:=allK_len ks
  repeat' (first|(with_reducible first|apply zw0|apply zw1|apply zw2|apply zw3|apply zw4|apply zw5|apply zw6|apply zw7|apply zw8|apply zw9|apply zw10|apply zw11|apply zw13|apply zw14)|((with_reducible refine zw12 ?_ ?_);rfl)|((with_reducible refine zw16 ?_ ?_ (fun K' hK'=>?_));rfl;rfl;simp only [UN,LM,zn0,zn1,zi0,zi1,zi2,zn2,zn3,zn4,reduceCtorEq,TAS,List.length_map];(repeat (refine And.intro ?_ ?_;focus (clear hK';intros;simp_all;done)));(try (refine hK' _ _ ?_;clear hK' K')))|((with_reducible refine zw15 ?_ ?_);rfl;refine ⟨_,rfl,fun h=>?_,fun h=>?_⟩ <;> try exact absurd h (by decide)))
  refine stop_make (n:=g.length) rfl un50 hi3 hz3 hs3 rfl rfl rfl rfl (by rw [hb3];omega) (by unfold maxLen;omega) rfl ?_
  simp only [UN,LM,zn0,zn1,zi0,zi1,zi2,zn2,zn3,zn4,reduceCtorEq,TAS]
  (repeat (refine And.intro ?_ ?_;focus (clear hK';intros;simp_all;done)))
  (try (refine hK' _ _ ?_;clear hK' K'))
  repeat' (first|(with_reducible first|apply zw0|apply zw1|apply zw2|apply zw3|apply zw4|apply zw5|apply zw6|apply zw7|apply zw8|apply zw9|apply zw10|apply zw11|apply zw13|apply zw14)|((with_reducible refine zw12 ?_ ?_);rfl)|((with_reducible refine zw16 ?_ ?_ (fun K' hK'=>?_));rfl;rfl;simp only [UN,LM,zn0,zn1,zi0,zi1,zi2,zn2,zn3,zn4,reduceCtorEq,TAS,List.length_map];(repeat (refine And.intro ?_ ?_;focus (clear hK';intros;simp_all;done)));(try (refine hK' _ _ ?_;clear hK' K')))|((with_reducible refine zw15 ?_ ?_);rfl;refine ⟨_,rfl,fun h=>?_,fun h=>?_⟩ <;> try exact absurd h (by decide)))
  refine swp_loop (α := Nat) (fun i=>[(0,.d (.slc (g.map Nd.d))),(3,.d (.slc (cl.map iD))),(4,.d (iD many)),(5,.mp 0),(6,.own 1),(23,.d (.slc (g.map Nd.d))),(24,.d (iD g.length)),(25,.d (iD i))])
    (fun i=>[(0,.mp (mOf 0 (allK (ks.take i)))),(1,.row 1 ((nxtK (ks.take i) ++ List.replicate (g.length - i) 0).map iD))])
    (fun i=>i ≤ g.length) (fun i=>g.length - i) 0 (Nat.zero_le _) (by refine sub_of h0 ?_ ?_ ?_ <;> simp only [US,UN,LM,zn0,zn1,zi0,zi1,zi2,zn2,zn3,zn4,reduceCtorEq,TAS,List.map_replicate,List.take_zero,nxtK,allK,List.map_nil,List.foldl_nil,mOf,Nat.sub_zero,List.nil_append]) (fun i hi=>?_)
  have hi : i ≤ g.length:=hi
  have hb0 : (0 : Int) ≤ (i : Int):=by omega
  have hak2:=allK_len (ks.take i)
  rw [List.length_take] at hak2
  by_cases hlt : i < g.length
  · obtain ⟨x,hx⟩ : ∃ x,g[i]? = some x:=⟨g[i],by simp [hlt]⟩
    obtain ⟨⟨hk0,hk1⟩,⟨hs0,hs1⟩,hls,hlb,hto,hr⟩:=hn x (List.mem_of_getElem? hx)
    have hkey:=keysF_get cl g 0 i x hx
    rw [hks,Nat.zero_add] at hkey
    have hget : (g.map Nd.d).getD i default = x.d:=by simp [List.getD,hx]
    obtain ⟨c,hc⟩ : ∃ c,cl[i]? = some c:=⟨cl[i]'(by omega),by simp⟩
    have hcg : (cl.map iD).getD i default = iD c:=by simp [List.getD,hc]
    have hcg2 : cl.getD i 0 = c:=by simp [List.getD,hc]
    obtain ⟨hc0,hc1⟩:=hcr c (List.mem_of_getElem? hc)
    have hb1 : (i : Int) < (g.length : Int):=by omega
    have hb2 : (i : Int) < (cl.length : Int):=by omega
    have hw1 : IntKind.i64.wrap ((i : Int) + 1) = ((i + 1 : Nat) : Int):=by rw [wrap_in (by omega) (by omega)];omega
    obtain ⟨k,so,ls,to⟩:=x
    simp only [Nd.d] at hget
    simp only at hk0 hk1 hs0 hs1 hls hlb hto hr
    have hik:=hI k hk0 (by omega)
    have his:=hI so hs0 (by omega)
    have hic:=hI c hc0 hc1
    have zk:=numS_size3 (show k < 1000 by omega)
    have zs:=numS_size3 (show so < 1000 by omega)
    have zc:=numS_size3 (show c < 1000 by omega)
    have z1 : (numS k).size + ByteArray.size ⟨#[32]⟩ ≤ maxLen:=by
      have : ByteArray.size ⟨#[32]⟩ = 1:=rfl
      unfold maxLen;omega
    have zsp : spS.size = 1:=rfl
    have z2 : (numS k ++ ⟨#[32]⟩).size + (numS so).size ≤ maxLen:=by
      rw [ByteArray.size_append]
      have : ByteArray.size ⟨#[32]⟩ = 1:=rfl
      unfold maxLen;omega
    obtain ⟨K0,hK0⟩ : ∃ K0,numS k ++ ⟨#[32]⟩ ++ numS so = K0:=⟨_,rfl⟩
    have zK0 : K0.size ≤ 7:=by
      rw [← hK0,ByteArray.size_append,ByteArray.size_append]
      have : ByteArray.size ⟨#[32]⟩ = 1:=rfl
      omega
    repeat' (first|(with_reducible first|apply zw0|apply zw1|apply zw2|apply zw3|apply zw4|apply zw5|apply zw6|apply zw7|apply zw8|apply zw9|apply zw10|apply zw11|apply zw13|apply zw14)|((with_reducible refine zw12 ?_ ?_);rfl)|((with_reducible refine zw16 ?_ ?_ (fun K' hK'=>?_));rfl;rfl;simp only [UN,LM,zn0,zn1,zi0,zi1,zi2,zn2,zn3,zn4,reduceCtorEq,TAS,Int.toNat_natCast,hget,hb0,hb1,List.length_map];(repeat (refine And.intro ?_ ?_;focus (clear hK';intros;simp_all;done)));(try (refine hK' _ _ ?_;clear hK' K')))|((with_reducible refine zw15 ?_ ?_);rfl;refine ⟨_,rfl,fun h=>?_,fun h=>?_⟩ <;> try exact absurd h (by decide)))
    (with_reducible refine swp_draw ?_ ?_ ?_ ( [(2,sD (numS k)),(6,sD (numS so))]) (fun K' hK'=>?_)
     · kernel_rfl
     · rfl
     · rfl
     simp only [UN,LM,zn0,zn1,zi0,zi1,zi2,zn2,zn3,zn4,reduceCtorEq,TAS,vcA,stepA,callA,rst,lksA,Oper.looksAt,Op.operands,pureOp,Call.operands,List.filterMap_cons,List.filterMap_nil,Option.toList_none,Option.toList_some,Option.bind_some,Option.bind_none,List.getElem?_toArray,Array.toList_append,List.append_nil,D.flat,D.flats,true_or,or_true,forall_const,hik,his,z1,z2,hK0 ]
     (try (refine hK' _ _ ?_;clear hK' K')))
    repeat' (first|(with_reducible first|apply zw0|apply zw1|apply zw2|apply zw3|apply zw4|apply zw5|apply zw6|apply zw7|apply zw8|apply zw9|apply zw10|apply zw11|apply zw13|apply zw14)|((with_reducible refine zw12 ?_ ?_);rfl)|((with_reducible refine zw16 ?_ ?_ (fun K' hK'=>?_));rfl;rfl;simp only [UN,LM,zn0,zn1,zi0,zi1,zi2,zn2,zn3,zn4,reduceCtorEq,TAS,List.length_map];(repeat (refine And.intro ?_ ?_;focus (clear hK';intros;simp_all;done)));(try (refine hK' _ _ ?_;clear hK' K')))|((with_reducible refine zw15 ?_ ?_);rfl;refine ⟨_,rfl,fun h=>?_,fun h=>?_⟩ <;> try exact absurd h (by decide)))
    refine swp_loop (α := Nat) (fun j=>[(0,.d (.slc (g.map Nd.d))),(3,.d (.slc (cl.map iD))),(4,.d (iD many)),(5,.mp 0),(6,.own 1),(23,.d (.slc (g.map Nd.d))),(24,.d (iD g.length)),(25,.d (iD i)),(7,.d (iD i)),(8,.ref 2 0),(9,.d (sD (catL K0 (ls.take j)))),(39,.d (.slc (ls.map sD))),(40,.d (iD ls.length)),(41,.d (iD j))]) (fun _=>[(0,.mp (mOf 0 (allK (ks.take i)))),(1,.row 1 ((nxtK (ks.take i) ++ List.replicate (g.length - i) 0).map iD)),(2,.cells [.d (iD k),.d (iD so),.d (.slc (ls.map sD)),.d (.slc (to.map iD))])])
      (fun j=>j ≤ ls.length) (fun j=>ls.length - j) 0 (Nat.zero_le _) (by refine sub_of h0 ?_ ?_ ?_ <;> simp only [US,UN,LM,zn0,zn1,zi0,zi1,zi2,zn2,zn3,zn4,reduceCtorEq,TAS,List.take_zero,catL,List.foldl_nil]) (fun j hj=>?_)
    have hj : j ≤ ls.length:=hj
    have hj0 : (0 : Int) ≤ (j : Int):=by omega
    by_cases hjl : j < ls.length
    · obtain ⟨y,hy⟩ : ∃ y,ls[j]? = some y:=⟨ls[j],by simp [hjl]⟩
      have hyz:=hlb y (List.mem_of_getElem? hy)
      have hyg : (ls.map sD).getD j default = sD y:=by simp [List.getD,hy]
      have hj1 : (j : Int) < (ls.length : Int):=by omega
      have hw2 : IntKind.i64.wrap ((j : Int) + 1) = ((j + 1 : Nat) : Int):=by rw [wrap_in (by omega) (by omega)];omega
      have htk : catL K0 (ls.take (j + 1)) = catL K0 (ls.take j) ++ (⟨#[32]⟩ ++ y):=by rw [List.take_add_one,hy];exact catL_snoc _ _ _
      have zt:=catL_size 8 (ls.take j) K0 (fun y hy=>hlb y (List.mem_of_mem_take hy))
      have zl : (ls.take j).length = j:=by simp;omega
      rw [zl] at zt
      have z3 : ByteArray.size ⟨#[32]⟩ + y.size ≤ maxLen:=by
        have : ByteArray.size ⟨#[32]⟩ = 1:=rfl
        unfold maxLen;omega
      have z4 : (catL K0 (ls.take j)).size + (⟨#[32]⟩ ++ y).size ≤ maxLen:=by
        rw [ByteArray.size_append (a:=⟨#[32]⟩)]
        have : ByteArray.size ⟨#[32]⟩ = 1:=rfl
        unfold maxLen;omega
      repeat' (first|(with_reducible first|apply zw0|apply zw1|apply zw2|apply zw3|apply zw4|apply zw5|apply zw6|apply zw7|apply zw8|apply zw9|apply zw10|apply zw11|apply zw13|apply zw14)|((with_reducible refine zw12 ?_ ?_);rfl)|((with_reducible refine zw16 ?_ ?_ (fun K' hK'=>?_));rfl;rfl;simp only [UN,LM,zn0,zn1,zi0,zi1,zi2,zn2,zn3,zn4,reduceCtorEq,TAS,Int.toNat_natCast,hyg,hj0,hj1,List.length_map,z3,z4,hw2];(repeat (refine And.intro ?_ ?_;focus (clear hK';intros;simp_all;done)));(try (refine hK' _ _ ?_;clear hK' K')))|((with_reducible refine zw15 ?_ ?_);rfl;refine ⟨_,rfl,fun h=>?_,fun h=>?_⟩ <;> try exact absurd h (by decide)))
      refine ⟨j + 1,(by show j + 1 ≤ ls.length;omega),(by show ls.length - (j + 1) < ls.length - j;omega),by refine sub_of h0 ?_ ?_ ?_ <;> simp only [US,UN,LM,zn0,zn1,zi0,zi1,zi2,zn2,zn3,zn4,reduceCtorEq,TAS,htk]⟩
    · have hj1 : ¬ (j : Int) < (ls.length : Int):=by omega
      have hlsj : ls.take j = ls:=List.take_of_length_le (by omega)
      rw [hlsj]
      obtain ⟨K1,hK1⟩ : ∃ K1,catL K0 ls ++ (⟨#[32]⟩ ++ numS c) = K1:=⟨_,rfl⟩
      have zt:=catL_size 8 ls K0 hlb
      have z3 : ByteArray.size ⟨#[32]⟩ + (numS c).size ≤ maxLen:=by
        have : ByteArray.size ⟨#[32]⟩ = 1:=rfl
        unfold maxLen;omega
      have z4 : (catL K0 ls).size + (⟨#[32]⟩ ++ numS c).size ≤ maxLen:=by
        rw [ByteArray.size_append (a:=⟨#[32]⟩)]
        have : ByteArray.size ⟨#[32]⟩ = 1:=rfl
        unfold maxLen;omega
      have zK1 : K1.size ≤ 80:=by
        rw [← hK1,ByteArray.size_append,ByteArray.size_append]
        have : ByteArray.size ⟨#[32]⟩ = 1:=rfl
        omega
      repeat' (first|(with_reducible first|apply zw0|apply zw1|apply zw2|apply zw3|apply zw4|apply zw5|apply zw6|apply zw7|apply zw8|apply zw9|apply zw10|apply zw11|apply zw13|apply zw14)|((with_reducible refine zw12 ?_ ?_);rfl)|((with_reducible refine zw16 ?_ ?_ (fun K' hK'=>?_));rfl;rfl;simp only [UN,LM,zn0,zn1,zi0,zi1,zi2,zn2,zn3,zn4,reduceCtorEq,TAS,hj1,Int.toNat_natCast,hb0,hb2,hcg,List.length_map];(repeat (refine And.intro ?_ ?_;focus (clear hK';intros;simp_all;done)));(try (refine hK' _ _ ?_;clear hK' K')))|((with_reducible refine zw15 ?_ ?_);rfl;refine ⟨_,rfl,fun h=>?_,fun h=>?_⟩ <;> try exact absurd h (by decide)))
      refine stop_callF rfl (by simp only [UN,LM,zn0,zn1,zi0,zi1,zi2,zn2,zn3,zn4,reduceCtorEq]) rfl rfl (hic ) ?_
      simp only [UN,LM,zn0,zn1,zi0,zi1,zi2,zn2,zn3,zn4,reduceCtorEq,TAS,inX,dropS,  z3,z4,hK1]
      (repeat (refine And.intro ?_ ?_;focus (clear hK';intros;simp_all;done)))
      (try (refine hK' _ _ ?_;clear hK' K'))
      repeat' (first|(with_reducible first|apply zw0|apply zw1|apply zw2|apply zw3|apply zw4|apply zw5|apply zw6|apply zw7|apply zw8|apply zw9|apply zw10|apply zw11|apply zw13|apply zw14)|((with_reducible refine zw12 ?_ ?_);rfl)|((with_reducible refine zw16 ?_ ?_ (fun K' hK'=>?_));rfl;rfl;simp only [UN,LM,zn0,zn1,zi0,zi1,zi2,zn2,zn3,zn4,reduceCtorEq,TAS,List.length_map];(repeat (refine And.intro ?_ ?_;focus (clear hK';intros;simp_all;done)));(try (refine hK' _ _ ?_;clear hK' K')))|((with_reducible refine zw15 ?_ ?_);rfl;refine ⟨_,rfl,fun h=>?_,fun h=>?_⟩ <;> try exact absurd h (by decide)))
      refine swp_loop (α := Nat) (fun j=>[(0,.d (.slc (g.map Nd.d))),(3,.d (.slc (cl.map iD))),(4,.d (iD many)),(5,.mp 0),(6,.own 1),(23,.d (.slc (g.map Nd.d))),(24,.d (iD g.length)),(25,.d (iD i)),(7,.d (iD i)),(8,.ref 2 0),(9,.d (sD (catL K1 ((to.take j).map fun k=>numS (cl.getD k.toNat 0))))),(59,.d (.slc (to.map iD))),(60,.d (iD to.length)),(61,.d (iD j))]) (fun _=>[(0,.mp (mOf 0 (allK (ks.take i)))),(1,.row 1 ((nxtK (ks.take i) ++ List.replicate (g.length - i) 0).map iD)),(2,.cells [.d (iD k),.d (iD so),.d (.slc (ls.map sD)),.d (.slc (to.map iD))])])
        (fun j=>j ≤ to.length) (fun j=>to.length - j) 0 (Nat.zero_le _) (by refine sub_of h0 ?_ ?_ ?_ <;> simp only [US,UN,LM,zn0,zn1,zi0,zi1,zi2,zn2,zn3,zn4,reduceCtorEq,TAS,List.take_zero,catL,List.map_nil,List.foldl_nil]) (fun j hj=>?_)
      clear hlsj hj1 hj0 zt z3 z4
      have hj : j ≤ to.length:=hj
      have hj0 : (0 : Int) ≤ (j : Int):=by omega
      by_cases hjl : j < to.length
      · obtain ⟨y,hy⟩ : ∃ y,to[j]? = some y:=⟨to[j],by simp [hjl]⟩
        have hyr:=hr y (List.mem_of_getElem? hy)
        have hyg : (to.map iD).getD j default = iD y:=by simp [List.getD,hy]
        obtain ⟨d,hd⟩ : ∃ d,cl[y.toNat]? = some d:=⟨cl[y.toNat]'(by omega),by simp⟩
        have hdg : (cl.map iD).getD y.toNat default = iD d:=by simp [List.getD,hd]
        have hdg2 : cl.getD y.toNat 0 = d:=by simp [List.getD,hd]
        obtain ⟨hd0,hd1⟩:=hcr d (List.mem_of_getElem? hd)
        have hid:=hI d hd0 hd1
        have zd:=numS_size3 (show d < 1000 by omega)
        have hy0 : (0 : Int) ≤ y:=hyr.1
        have hy1 : y < (cl.length : Int):=by omega
        have hj1 : (j : Int) < (to.length : Int):=by omega
        have hw2 : IntKind.i64.wrap ((j : Int) + 1) = ((j + 1 : Nat) : Int):=by rw [wrap_in (by omega) (by omega)];omega
        have htk : catL K1 ((to.take (j + 1)).map fun k=>numS (cl.getD k.toNat 0)) = catL K1 ((to.take j).map fun k=>numS (cl.getD k.toNat 0)) ++ (⟨#[32]⟩ ++ numS d):=by
          rw [List.take_add_one,hy,List.map_append, ← hdg2];exact catL_snoc _ _ _
        have zt:=catL_size 3 ((to.take j).map fun k=>numS (cl.getD k.toNat 0)) K1 (fun z hz=>by
          obtain ⟨q,hq,rfl⟩:=List.mem_map.1 hz
          have hqr:=hr q (List.mem_of_mem_take hq)
          refine numS_size3 ?_
          rw [List.getD_eq_getElem?_getD,List.getElem?_eq_getElem (by omega),Option.getD_some]
          have:=(hcr _ (List.getElem_mem (show q.toNat < cl.length by omega))).2
          omega)
        have zl : ((to.take j).map fun k=>numS (cl.getD k.toNat 0)).length = j:=by simp;omega
        rw [zl] at zt
        have z3 : ByteArray.size ⟨#[32]⟩ + (numS d).size ≤ maxLen:=by
          have : ByteArray.size ⟨#[32]⟩ = 1:=rfl
          unfold maxLen;omega
        have z4 : (catL K1 ((to.take j).map fun k=>numS (cl.getD k.toNat 0))).size + (⟨#[32]⟩ ++ numS d).size ≤ maxLen:=by
          rw [ByteArray.size_append (a:=⟨#[32]⟩)]
          have : ByteArray.size ⟨#[32]⟩ = 1:=rfl
          unfold maxLen;omega
        obtain ⟨A,hA⟩ : ∃ A,catL K1 ((to.take j).map fun k=>numS (cl.getD k.toNat 0)) = A:=⟨_,rfl⟩
        rw [hA] at z4 htk ⊢
        repeat' (first|(with_reducible first|apply zw0|apply zw1|apply zw2|apply zw3|apply zw4|apply zw5|apply zw6|apply zw7|apply zw8|apply zw9|apply zw10|apply zw11|apply zw13|apply zw14)|((with_reducible refine zw12 ?_ ?_);rfl)|((with_reducible refine zw16 ?_ ?_ (fun K' hK'=>?_));rfl;rfl;simp only [UN,LM,zn0,zn1,zi0,zi1,zi2,zn2,zn3,zn4,reduceCtorEq,TAS,Int.toNat_natCast,hyg,hj0,hj1,hy0,hy1,hdg,List.length_map];(repeat (refine And.intro ?_ ?_;focus (clear hK';intros;simp_all;done)));(try (refine hK' _ _ ?_;clear hK' K')))|((with_reducible refine zw15 ?_ ?_);rfl;refine ⟨_,rfl,fun h=>?_,fun h=>?_⟩ <;> try exact absurd h (by decide)))
        refine stop_callF rfl (by simp only [UN,LM,zn0,zn1,zi0,zi1,zi2,zn2,zn3,zn4,reduceCtorEq]) rfl rfl (hid ) ?_
        simp only [UN,LM,zn0,zn1,zi0,zi1,zi2,zn2,zn3,zn4,reduceCtorEq,TAS,inX,dropS,  z3,z4]
        (repeat (refine And.intro ?_ ?_;focus (clear hK';intros;simp_all;done)))
        (try (refine hK' _ _ ?_;clear hK' K'))
        repeat' (first|(with_reducible first|apply zw0|apply zw1|apply zw2|apply zw3|apply zw4|apply zw5|apply zw6|apply zw7|apply zw8|apply zw9|apply zw10|apply zw11|apply zw13|apply zw14)|((with_reducible refine zw12 ?_ ?_);rfl)|((with_reducible refine zw16 ?_ ?_ (fun K' hK'=>?_));rfl;rfl;simp only [UN,LM,zn0,zn1,zi0,zi1,zi2,zn2,zn3,zn4,reduceCtorEq,TAS,hw2];(repeat (refine And.intro ?_ ?_;focus (clear hK';intros;simp_all;done)));(try (refine hK' _ _ ?_;clear hK' K')))|((with_reducible refine zw15 ?_ ?_);rfl;refine ⟨_,rfl,fun h=>?_,fun h=>?_⟩ <;> try exact absurd h (by decide)))
        refine ⟨j + 1,(by show j + 1 ≤ to.length;omega),(by show to.length - (j + 1) < to.length - j;omega),by refine sub_of h0 ?_ ?_ ?_ <;> simp only [US,UN,LM,zn0,zn1,zi0,zi1,zi2,zn2,zn3,zn4,reduceCtorEq,TAS,htk]⟩
      · have hj1 : ¬ (j : Int) < (to.length : Int):=by omega
        have htoj : to.take j = to:=List.take_of_length_le (by omega)
        rw [htoj]
        obtain ⟨K,hK⟩ : ∃ K,catL K1 (to.map fun k=>numS (cl.getD k.toNat 0)) = K:=⟨_,rfl⟩
        rw [hK]
        have hkK : ks[i]? = some K:=by
          rw [hkey, ← hK, ← hK1, ← hK0]
          simp only [keyOf,hcg2]
        have hko:=keyOK_mOf K (allK (ks.take i))
        have htk : ks.take (i + 1) = ks.take i ++ [K]:=by rw [List.take_add_one,hkK];rfl
        have hfind:=find_mOf K (allK (ks.take i)) 0
        have hml:=mOf_len (allK (ks.take i)) 0
        have hrow : ((nxtK (ks.take i) ++ List.replicate (g.length - i) 0).map iD).set i (iD (plK K (addK (allK (ks.take i)) K))) = (nxtK (ks.take (i + 1)) ++ List.replicate (g.length - (i + 1)) 0).map iD:=by
          have hnl : (nxtK (ks.take i)).length = i:=by simp [nxtK];omega
          rw [htk,nxtK_snoc, ← List.map_set]
          congr 1
          rw [show g.length - i = (g.length - (i + 1)) + 1 by omega,List.replicate_succ,List.set_append_right _ _ (by omega),hnl,Nat.sub_self,List.set_cons_zero,List.append_assoc]
          rfl
        have hrl : ((nxtK (ks.take i) ++ List.replicate (g.length - i) 0).map iD).length = g.length:=by simp [nxtK];omega
        have hgd0 : ((nxtK (ks.take i) ++ List.replicate (g.length - i) 0).map iD).getD i default = iD 0:=by
          have hnl : (nxtK (ks.take i)).length = i:=by simp [nxtK];omega
          rw [List.getD_eq_getElem?_getD,List.getElem?_map,List.getElem?_append_right (by omega),hnl,Nat.sub_self,List.getElem?_replicate,if_pos (by omega)]
          rfl
        cases hix : ixK K (allK (ks.take i)) 0 with
        | some p =>
          rw [hix] at hfind
          simp only [Option.map_some] at hfind
          have hadd : addK (allK (ks.take i)) K = allK (ks.take i):=by unfold addK;rw [hix]
          have hpl : plK K (allK (ks.take i)) = (p : Int):=by unfold plK;rw [hix];rfl
          rw [hadd,hpl] at hrow
          repeat' (first|(with_reducible first|apply zw0|apply zw1|apply zw2|apply zw3|apply zw4|apply zw5|apply zw6|apply zw7|apply zw8|apply zw9|apply zw10|apply zw11|apply zw13|apply zw14)|((with_reducible refine zw12 ?_ ?_);rfl)|((with_reducible refine zw16 ?_ ?_ (fun K' hK'=>?_));rfl;rfl;simp only [UN,LM,zn0,zn1,zi0,zi1,zi2,zn2,zn3,zn4,reduceCtorEq,TAS,hj1,hko,hfind,Int.toNat_natCast,hb0,hb1,hrl];(repeat (refine And.intro ?_ ?_;focus (clear hK';intros;simp_all;done)));(try (refine hK' _ _ ?_;clear hK' K')))|((with_reducible refine zw15 ?_ ?_);rfl;refine ⟨_,rfl,fun h=>?_,fun h=>?_⟩ <;> try exact absurd h (by decide)))
          refine stop_sE rfl (by simp only [UN,LM,zn0,zn1,zi0,zi1,zi2,zn2,zn3,zn4,reduceCtorEq,TAS,storeE,setE,dAll,Option.map_some,hgd0,hrow];rfl) ?_ ?_
          · first | trivial | ((repeat' (refine And.intro ?_ ?_)) <;> first | trivial | assumption | (clear hK';intros;simp_all;done))
          simp only [UN,LM,zn0,zn1,zi0,zi1,zi2,zn2,zn3,zn4,reduceCtorEq,TAS,hgd0,hrow]
          (repeat (refine And.intro ?_ ?_;focus (clear hK';intros;simp_all;done)))
          (try (refine hK' _ _ ?_;clear hK' K'))
          repeat' (first|(with_reducible first|apply zw0|apply zw1|apply zw2|apply zw3|apply zw4|apply zw5|apply zw6|apply zw7|apply zw8|apply zw9|apply zw10|apply zw11|apply zw13|apply zw14)|((with_reducible refine zw12 ?_ ?_);rfl)|((with_reducible refine zw16 ?_ ?_ (fun K' hK'=>?_));rfl;rfl;simp only [UN,LM,zn0,zn1,zi0,zi1,zi2,zn2,zn3,zn4,reduceCtorEq,TAS,hw1];(repeat (refine And.intro ?_ ?_;focus (clear hK';intros;simp_all;done)));(try (refine hK' _ _ ?_;clear hK' K')))|((with_reducible refine zw15 ?_ ?_);rfl;refine ⟨_,rfl,fun h=>?_,fun h=>?_⟩ <;> try exact absurd h (by decide)))
          refine ⟨i + 1,(by show i + 1 ≤ g.length;omega),(by show g.length - (i + 1) < g.length - i;omega),?_⟩
          refine sub_of h0 ?_ ?_ ?_ <;> simp only [US,UN,LM,zn0,zn1,zi0,zi1,zi2,zn2,zn3,zn4,reduceCtorEq,TAS,htk,allK_snoc,hadd,hrow]
        | none =>
          rw [hix] at hfind
          simp only [Option.map_none] at hfind
          have hset:=set_mOf K (allK (ks.take i)) 0 0 hix
          rw [Nat.zero_add] at hset
          have hadd : addK (allK (ks.take i)) K = allK (ks.take i) ++ [K]:=by unfold addK;rw [hix]
          have hix2:=ix_none_app hix
          have hfind2:=find_mOf K (allK (ks.take i) ++ [K]) 0
          rw [hix2,Nat.zero_add] at hfind2
          simp only [Option.map_some] at hfind2
          have hko2:=keyOK_mOf K (allK (ks.take i) ++ [K])
          have hpl : plK K (allK (ks.take i) ++ [K]) = ((allK (ks.take i)).length : Int):=by unfold plK;rw [hix2,Nat.zero_add];rfl
          rw [hadd,hpl] at hrow
          repeat' (first|(with_reducible first|apply zw0|apply zw1|apply zw2|apply zw3|apply zw4|apply zw5|apply zw6|apply zw7|apply zw8|apply zw9|apply zw10|apply zw11|apply zw13|apply zw14)|((with_reducible refine zw12 ?_ ?_);rfl)|((with_reducible refine zw16 ?_ ?_ (fun K' hK'=>?_));rfl;rfl;simp only [UN,LM,zn0,zn1,zi0,zi1,zi2,zn2,zn3,zn4,reduceCtorEq,TAS,hj1,hko,hfind,hml,hset,hko2,hfind2,Int.toNat_natCast,hb0,hb1,hrl];(repeat (refine And.intro ?_ ?_;focus (clear hK';intros;simp_all;done)));(try (refine hK' _ _ ?_;clear hK' K')))|((with_reducible refine zw15 ?_ ?_);rfl;refine ⟨_,rfl,fun h=>?_,fun h=>?_⟩ <;> try exact absurd h (by decide)))
          refine stop_sE rfl (by simp only [UN,LM,zn0,zn1,zi0,zi1,zi2,zn2,zn3,zn4,reduceCtorEq,TAS,storeE,setE,dAll,Option.map_some,hgd0,hrow];rfl) ?_ ?_
          · first | trivial | ((repeat' (refine And.intro ?_ ?_)) <;> first | trivial | assumption | (clear hK';intros;simp_all;done))
          simp only [UN,LM,zn0,zn1,zi0,zi1,zi2,zn2,zn3,zn4,reduceCtorEq,TAS,hgd0,hrow]
          (repeat (refine And.intro ?_ ?_;focus (clear hK';intros;simp_all;done)))
          (try (refine hK' _ _ ?_;clear hK' K'))
          repeat' (first|(with_reducible first|apply zw0|apply zw1|apply zw2|apply zw3|apply zw4|apply zw5|apply zw6|apply zw7|apply zw8|apply zw9|apply zw10|apply zw11|apply zw13|apply zw14)|((with_reducible refine zw12 ?_ ?_);rfl)|((with_reducible refine zw16 ?_ ?_ (fun K' hK'=>?_));rfl;rfl;simp only [UN,LM,zn0,zn1,zi0,zi1,zi2,zn2,zn3,zn4,reduceCtorEq,TAS,hw1];(repeat (refine And.intro ?_ ?_;focus (clear hK';intros;simp_all;done)));(try (refine hK' _ _ ?_;clear hK' K')))|((with_reducible refine zw15 ?_ ?_);rfl;refine ⟨_,rfl,fun h=>?_,fun h=>?_⟩ <;> try exact absurd h (by decide)))
          refine ⟨i + 1,(by show i + 1 ≤ g.length;omega),(by show g.length - (i + 1) < g.length - i;omega),?_⟩
          refine sub_of h0 ?_ ?_ ?_ <;> simp only [US,UN,LM,zn0,zn1,zi0,zi1,zi2,zn2,zn3,zn4,reduceCtorEq,TAS,htk,allK_snoc,hadd,hrow]
  · have hb1 : ¬ (i : Int) < (g.length : Int):=by omega
    have hie : i = g.length:=by omega
    have hksi : ks.take i = ks:=List.take_of_length_le (by omega)
    have hz : List.replicate (g.length - i) (0 : Int) = []:=by rw [hie,Nat.sub_self];rfl
    rw [hksi,hz,List.append_nil]
    have hml:=mOf_len (allK ks) 0
    have hq : (((allK ks).length : Int) == (many : Int)) = decide ((allK ks).length = many):=by
      rw [Bool.eq_iff_iff,beq_iff_eq,decide_eq_true_iff];omega
    rw [hks] at hmany
    obtain ⟨f,rfl⟩ : ∃ f',f = f' + 1:=⟨f - 1,by omega⟩
    unfold partF at hpt
    rw [hks] at hpt
    by_cases he : (allK ks).length = many
    · rw [if_pos he] at hpt
      rw [hpt]
      have hq : (((allK ks).length : Int) == (many : Int)) = true:=by rw [hq];simpa using he
      repeat' (first|(with_reducible first|apply zw0|apply zw1|apply zw2|apply zw3|apply zw4|apply zw5|apply zw6|apply zw7|apply zw8|apply zw9|apply zw10|apply zw11|apply zw13|apply zw14)|((with_reducible refine zw12 ?_ ?_);rfl)|((with_reducible refine zw16 ?_ ?_ (fun K' hK'=>?_));rfl;rfl;simp only [UN,LM,zn0,zn1,zi0,zi1,zi2,zn2,zn3,zn4,reduceCtorEq,TAS,hb1,hml,hq];(repeat (refine And.intro ?_ ?_;focus (clear hK';intros;simp_all;done)));(try (refine hK' _ _ ?_;clear hK' K')))|((with_reducible refine zw15 ?_ ?_);rfl;refine ⟨_,rfl,fun h=>?_,fun h=>?_⟩ <;> try exact absurd h (by decide)))
      simp only [Kret,retL,retOne,oneV,UN,LM,zn0,zn1,zi0,zi1,zi2,zn2,zn3,zn4,reduceCtorEq,TAS]
    · rw [if_neg he] at hpt
      have hq : (((allK ks).length : Int) == (many : Int)) = false:=by rw [hq];simpa using he
      have hgr:=hgrow cl hcl hcr
      rw [hks] at hgr
      have hrg:=nxtK_range ks
      repeat' (first|(with_reducible first|apply zw0|apply zw1|apply zw2|apply zw3|apply zw4|apply zw5|apply zw6|apply zw7|apply zw8|apply zw9|apply zw10|apply zw11|apply zw13|apply zw14)|((with_reducible refine zw12 ?_ ?_);rfl)|((with_reducible refine zw16 ?_ ?_ (fun K' hK'=>?_));rfl;rfl;simp only [UN,LM,zn0,zn1,zi0,zi1,zi2,zn2,zn3,zn4,reduceCtorEq,TAS,hb1,hml,hq];(repeat (refine And.intro ?_ ?_;focus (clear hK';intros;simp_all;done)));(try (refine hK' _ _ ?_;clear hK' K')))|((with_reducible refine zw15 ?_ ?_);rfl;refine ⟨_,rfl,fun h=>?_,fun h=>?_⟩ <;> try exact absurd h (by decide)))
      refine ⟨(nxtK ks,(allK ks).length),⟨by simp [nxtK,hksn],fun c hc=>?_,hgr,f,(by show g.length + 1 - (allK ks).length ≤ f;omega),hpt⟩,(by show g.length + 1 - (allK ks).length < g.length + 1 - many;omega),by refine sub_of h0 ?_ ?_ ?_ <;> simp only [US,UN,LM,zn0,zn1,zi0,zi1,zi2,zn2,zn3,zn4,reduceCtorEq,TAS]⟩
      have:=hrg c hc
      omega
end Go.Proofs.YtgecnlcbdbaneaaDoor
/- graph.least; a symbolic walk. -/
-- TYPESA
namespace Go.Proofs.YtgecnlcbdbaneaaDoor
open Go.RowKit Go.Sw
open Nat renaming reduceBEq → zn0, reduceLeDiff → zn1, reduceAdd → zn2, reduceSub → zn3, reduceMul → zn4
open Int renaming reduceLE → zi0, reduceLT → zi1, reduceToNat → zi2
open Go.Sw renaming swp_seq → zw0, swp_block → zw1, swp_skip → zw2, swp_ret → zw3, swp_exit → zw4, swp_label → zw5, kseq_n → zw6, kseq_x → zw7, kseq_r → zw8, kblk_n → zw9, kblk_r → zw10, kblk_xs → zw11, kblk_xn → zw12, kloop_x → zw13, kloop_r → zw14, swp_cond → zw15, swp_regionP → zw16, swp_region → zw17

set_option maxHeartbeats 8000000 in
set_option maxRecDepth 100000 in
theorem least_fn (Γ : Gl) (g : List Nd) (hg : g.length ≤ 250) (hg0 : 0 < g.length) (hn : ∀ x ∈ g,NdOK g.length x) (hcl : (partedP g).length = g.length) (hp : DFn Tryd.prog Γ 71 [.slc (g.map Nd.d)] (.slc ((partedP g).map iD))) :
    DFn Tryd.prog Γ 46 [.slc (g.map Nd.d)] (.slc ((leastP g).map Nd.d)):=by
  obtain ⟨R,hR⟩ : ∃ R,leastP g = R:=⟨_,rfl⟩
  rw [hR]
  unfold leastP at hR
  generalize partedP g = cl at hp hcl hR
  obtain ⟨c0,hc0⟩ : ∃ c0,cl[0]? = some c0:=⟨cl[0]'(by omega),by simp⟩
  have hc0g : (cl.map iD).getD 0 default = iD c0:=by simp [List.getD,hc0]
  have hc0c : cOf cl 0 = c0:=by simp [cOf,List.getD,hc0]
  have hlt0 : (0 : Int) < (cl.length : Int):=by omega
  have hko0:=keyOK_mI c0 []
  have hset0 : setM (.int .i64 c0) (.int .i64 0) [] = mI 0 [c0]:=rfl
  rw [show mI 0 [] = [] from rfl] at hko0
  refine fn_of_swp (N:=89) Tryd.func46 rfl (by decide) rfl rfl (by simp) (fun C h0=>?_)
  simp only [argE]
  repeat' (first|(with_reducible first|apply zw0|apply zw1|apply zw2|apply zw3|apply zw4|apply zw5|apply zw6|apply zw7|apply zw8|apply zw9|apply zw10|apply zw11|apply zw13|apply zw14)|((with_reducible refine zw12 ?_ ?_);rfl)|((with_reducible refine zw16 ?_ ?_ (fun K' hK'=>?_));rfl;rfl;simp only [UN,LM,zn0,zn1,zi0,zi1,zi2,zn2,zn3,zn4,reduceCtorEq,TAS];(repeat (refine And.intro ?_ ?_;focus (clear hK';intros;simp_all;done)));(try (refine hK' _ _ ?_;clear hK' K')))|((with_reducible refine zw15 ?_ ?_);rfl;refine ⟨_,rfl,fun h=>?_,fun h=>?_⟩ <;> try exact absurd h (by decide)))
  refine stop_call h0 rfl (by simp only [UN,LM,zn0,zn1,zi0,zi1,zi2,zn2,zn3,zn4,reduceCtorEq]) rfl (by simp only [keepS,UN,LM,zn0,zn1,zi0,zi1,zi2,zn2,zn3,zn4,reduceCtorEq]) (hp) ?_
  simp only [UN,LM,zn0,zn1,zi0,zi1,zi2,zn2,zn3,zn4,reduceCtorEq,TAS,inX,dropS, ]
  (repeat (refine And.intro ?_ ?_;focus (clear hK';intros;simp_all;done)))
  (try (refine hK' _ _ ?_;clear hK' K'))
  refine zw6 ?_
  refine zw0 ?_
  (with_reducible refine zw17 ?_ (fun K' hK'=>?_)
   · rfl
   simp only [UN,LM,zn0,zn1,zi0,zi1,zi2,zn2,zn3,zn4,reduceCtorEq,TAS,hlt0,hc0g,hko0,hset0,List.length_map,Int.toNat_zero,zi2]
   (repeat (refine And.intro ?_ ?_;focus (clear hK';intros;simp_all;done))))
  refine hK' _ _ ?_
  clear hK' K'
  refine zw6 ?_
  refine zw0 ?_
  (with_reducible refine zw17 ?_ (fun K' hK'=>?_)
   · rfl
   simp only [UN,LM,zn0,zn1,zi0,zi1,zi2,zn2,zn3,zn4,reduceCtorEq,TAS]
   (repeat (refine And.intro ?_ ?_;focus (clear hK';intros;simp_all;done))))
  refine hK' _ _ ?_
  clear hK' K'
  refine zw6 ?_
  refine zw0 ?_
  (with_reducible refine zw17 ?_ (fun K' hK'=>?_)
   · rfl
   simp only [UN,LM,zn0,zn1,zi0,zi1,zi2,zn2,zn3,zn4,reduceCtorEq,TAS]
   (repeat (refine And.intro ?_ ?_;focus (clear hK';intros;simp_all;done))))
  refine hK' _ _ ?_
  clear hK' K'
  refine zw6 ?_
  refine swp_nil 6 2 4 rfl rfl (by decide) ?_
  simp only [UN,LM,zn0,zn1,zi0,zi1,zi2,zn2,zn3,zn4,reduceCtorEq]
  repeat' (first|(with_reducible first|apply zw0|apply zw1|apply zw2|apply zw3|apply zw4|apply zw5|apply zw6|apply zw7|apply zw8|apply zw9|apply zw10|apply zw11|apply zw13|apply zw14)|((with_reducible refine zw12 ?_ ?_);rfl)|((with_reducible refine zw16 ?_ ?_ (fun K' hK'=>?_));rfl;rfl;simp only [UN,LM,zn0,zn1,zi0,zi1,zi2,zn2,zn3,zn4,reduceCtorEq,TAS];(repeat (refine And.intro ?_ ?_;focus (clear hK';intros;simp_all;done)));(try (refine hK' _ _ ?_;clear hK' K')))|((with_reducible refine zw15 ?_ ?_);rfl;refine ⟨_,rfl,fun h=>?_,fun h=>?_⟩ <;> try exact absurd h (by decide)))
  refine swp_loop (α := Nat × List Int × List Nd) (fun q=>[(0,.d (.slc (g.map Nd.d))),(3,.d (.slc (cl.map iD))),(4,.mp 0),(5,.own 1),(6,.own 2),(7,.d (iD q.1))]) (fun q=>[(0,.mp (mI 0 (q.2.1.map (cOf cl)))),(1,.row 1 (q.2.1.map iD)),(2,.row 4 (q.2.2.map Nd.d))])
    (fun q=>q.1 ≤ q.2.1.length ∧ OrdI cl g.length q.2.1 ∧ q.2.2.length = q.1 ∧ ∃ f,g.length + 1 - q.1 ≤ f ∧ lstF g cl f q.1 q.2.1 q.2.2 = R) (fun q=>g.length + 1 - q.1)
    (0,[0],[]) ⟨by simp,⟨by simp;omega,by simp⟩,rfl,_,Nat.le_refl _,hR⟩ (by refine sub_of h0 ?_ ?_ ?_ <;> simp only [US,UN,LM,zn0,zn1,zi0,zi1,zi2,zn2,zn3,zn4,reduceCtorEq,TAS,hc0c,List.map_cons,List.map_nil]) (fun q hq=>?_)
  obtain ⟨at',ord,out⟩:=q
  obtain ⟨hat,hord,hout,f,hf,hR⟩:=hq
  simp only at hat hord hout hf hR
  have hol:=hord.len
  have ha0 : (0 : Int) ≤ (at' : Int):=by omega
  by_cases hlt : at' < ord.length
  · obtain ⟨v,hv⟩ : ∃ v,ord[at']? = some v:=⟨ord[at'],by simp [hlt]⟩
    have hvr:=hord.r v (List.mem_of_getElem? hv)
    have hvg : (ord.map iD).getD at' default = iD v:=by simp [List.getD,hv]
    obtain ⟨x,hx⟩ : ∃ x,g[v.toNat]? = some x:=⟨g[v.toNat]'(by omega),by simp⟩
    have hget : (g.map Nd.d).getD v.toNat default = x.d:=by simp [List.getD,hx]
    obtain ⟨⟨hk0,hk1⟩,⟨hs0,hs1⟩,hls,hlb,hto,hr⟩:=hn x (List.mem_of_getElem? hx)
    obtain ⟨f,rfl⟩ : ∃ f',f = f' + 1:=⟨f - 1,by omega⟩
    unfold lstF at hR
    simp only [hv,hx] at hR
    obtain ⟨k,so,ls,to⟩:=x
    simp only [Nd.d] at hget
    simp only at hk0 hk1 hs0 hs1 hls hlb hto hr hR
    have hcS:=cloneS_d Γ ls (by omega)
    have ha1 : (at' : Int) < (ord.length : Int):=by omega
    have hv0 : (0 : Int) ≤ v:=hvr.1
    have hv1 : v < (g.length : Int):=hvr.2
    have hw1 : IntKind.i64.wrap ((at' : Int) + 1) = ((at' + 1 : Nat) : Int):=by rw [wrap_in (by omega) (by omega)];omega
    have hnout : (out.length + 1) * 64 ≤ 140737488355328:=by omega
    have hnout2 : out.length + 1 ≤ maxLen:=by unfold maxLen;omega
    repeat' (first|(with_reducible first|apply zw0|apply zw1|apply zw2|apply zw3|apply zw4|apply zw5|apply zw6|apply zw7|apply zw8|apply zw9|apply zw10|apply zw11|apply zw13|apply zw14)|((with_reducible refine zw12 ?_ ?_);rfl)|((with_reducible refine zw16 ?_ ?_ (fun K' hK'=>?_));rfl;rfl;simp only [UN,LM,zn0,zn1,zi0,zi1,zi2,zn2,zn3,zn4,reduceCtorEq,TAS,Int.toNat_natCast,hvg,hget,ha0,ha1,hv0,hv1,List.length_map];(repeat (refine And.intro ?_ ?_;focus (clear hK';intros;simp_all;done)));(try (refine hK' _ _ ?_;clear hK' K')))|((with_reducible refine zw15 ?_ ?_);rfl;refine ⟨_,rfl,fun h=>?_,fun h=>?_⟩ <;> try exact absurd h (by decide)))
    (with_reducible refine swp_drawX ?_ ?_ ?_ (⟨⟨[(6,.slc (ls.map sD))],[]⟩,[],[],[],[]⟩) _ rfl (fun K' hK' gops fin hgops hfin=>?_)
     · kernel_rfl
     · rfl
     · rfl
     repeat' first
       | (refine vcX_dead rfl trivial (by simp only [UN,LM,zn0,zn1,zi0,zi1,zi2,zn2,zn3,zn4,reduceCtorEq,TAS,Eff.env,Eff.st,jkE,jkS,UA,LM];rfl) (by simp only [List.nil_append,List.cons_append];rfl) (by simp only [zn2];rfl) ?_)
       | (refine vcX_step rfl rfl trivial (by simp only [UN,LM,zn0,zn1,zi0,zi1,zi2,zn2,zn3,zn4,reduceCtorEq,TAS,stepX,stepX1,frzR,stepX0,callN,storeE,dAll,setE,callM,mArgs,SV.calm,SV.calms,callB,callP,bArgs,hasR,hins,hin,yes,inX,stepW,callR,effO,srcE,Eff.env,Eff.st,writeOp,callA,pureOp,Bool.or_true,Bool.true_or,Bool.or_self,Bool.or_false,Bool.false_or,Bool.not_true,Bool.not_false,D.flat,D.flats,true_or,or_true,forall_const,UA,hcS,List.length_map ];rfl) ?_ (by simp only [UN,LM,zn0,zn1,zi0,zi1,zi2,zn2,zn3,zn4,reduceCtorEq,TAS,Eff.env,Eff.st,jkE,jkS,UA,LM];rfl) (by simp only [UN,LM,zn0,zn1,zi0,zi1,zi2,zn2,zn3,zn4,reduceCtorEq,TAS,Eff.env,Eff.st,jkE,jkS,UA,LM];rfl) (by simp only [List.nil_append,List.cons_append];rfl) (by simp only [zn2];rfl) ?_;focus (first | trivial | ((repeat' (refine And.intro ?_ ?_)) <;> first | trivial | assumption | (clear hK' hfin hgops;intros;simp_all;done))))
     (refine vcX_nil (by subst hfin;kernel_rfl) ?_)
     clear hfin hgops fin gops
     (try (refine hK' _ _ ?_;clear hK' K')))
    refine zw6 ?_
    refine swp_nilB 12 3 13 1 rfl rfl rfl (by decide) ?_
    simp only [UN,LM,zn0,zn1,zi0,zi1,zi2,zn2,zn3,zn4,reduceCtorEq]
    repeat' (first|(with_reducible first|apply zw0|apply zw1|apply zw2|apply zw3|apply zw4|apply zw5|apply zw6|apply zw7|apply zw8|apply zw9|apply zw10|apply zw11|apply zw13|apply zw14)|((with_reducible refine zw12 ?_ ?_);rfl)|((with_reducible refine zw16 ?_ ?_ (fun K' hK'=>?_));rfl;rfl;simp only [UN,LM,zn0,zn1,zi0,zi1,zi2,zn2,zn3,zn4,reduceCtorEq,TAS,List.length_map];(repeat (refine And.intro ?_ ?_;focus (clear hK';intros;simp_all;done)));(try (refine hK' _ _ ?_;clear hK' K')))|((with_reducible refine zw15 ?_ ?_);rfl;refine ⟨_,rfl,fun h=>?_,fun h=>?_⟩ <;> try exact absurd h (by decide)))
    refine swp_loop (α := Nat × List Int × List Int) (fun q=>[(0,.d (.slc (g.map Nd.d))),(3,.d (.slc (cl.map iD))),(4,.mp 0),(5,.own 1),(6,.own 2),(7,.d (iD at')),(9,.ref 12 0),(44,.d (.slc (to.map iD))),(45,.d (iD to.length)),(46,.d (iD q.1))])
      (fun q=>[(0,.mp (mI 0 (q.2.2.map (cOf cl)))),(1,.row 1 (q.2.2.map iD)),(2,.row 4 (out.map Nd.d)),(12,.cells [.d (iD k),.d (iD so),.d (.slc (ls.map sD)),.own 13]),(13,.row 1 (q.2.1.map iD))])
      (fun q=>q.1 ≤ to.length ∧ rowO cl (to.take q.1) ord = q.2) (fun q=>to.length - q.1) (0,[],ord) ⟨Nat.zero_le _,rfl⟩ (by refine sub_of h0 ?_ ?_ ?_ <;> simp only [US,UN,LM,zn0,zn1,zi0,zi1,zi2,zn2,zn3,zn4,reduceCtorEq,TAS,List.map_nil]) (fun q hq=>?_)
    obtain ⟨j,to',ord'⟩:=q
    obtain ⟨hj,hq⟩:=hq
    simp only at hj hq
    have hj0 : (0 : Int) ≤ (j : Int):=by omega
    have hord' : OrdI cl g.length ord':=by
      have:=OrdI.row (to:=to.take j) hord (fun k hk=>hr k (List.mem_of_mem_take hk))
      rw [hq] at this
      exact this
    have hol':=hord'.len
    have hto' : to'.length = j:=by
      have:=rowO_len cl (to.take j) ord
      rw [hq] at this
      simp only [List.length_take] at this
      omega
    by_cases hjl : j < to.length
    · obtain ⟨y,hy⟩ : ∃ y,to[j]? = some y:=⟨to[j],by simp [hjl]⟩
      have hyr:=hr y (List.mem_of_getElem? hy)
      have hyg : (to.map iD).getD j default = iD y:=by simp [List.getD,hy]
      obtain ⟨d,hd⟩ : ∃ d,cl[y.toNat]? = some d:=⟨cl[y.toNat]'(by omega),by simp⟩
      have hdg : (cl.map iD).getD y.toNat default = iD d:=by simp [List.getD,hd]
      have hdc : cOf cl y = d:=by simp [cOf,List.getD,hd]
      have hy0 : (0 : Int) ≤ y:=hyr.1
      have hy1 : y < (cl.length : Int):=by omega
      have hj1 : (j : Int) < (to.length : Int):=by omega
      have hw2 : IntKind.i64.wrap ((j : Int) + 1) = ((j + 1 : Nat) : Int):=by rw [wrap_in (by omega) (by omega)];omega
      have htk:=rowO_snoc cl y (to.take j) ord
      rw [show to.take j ++ [y] = to.take (j + 1) by rw [List.take_add_one,hy];rfl,hq,hdc] at htk
      simp only at htk
      have hko:=keyOK_mI d (ord'.map (cOf cl))
      have hfind:=find_mI d (ord'.map (cOf cl)) 0
      have hn3 : (to'.length + 1) * 8 ≤ 140737488355328:=by omega
      have hn4 : to'.length + 1 ≤ maxLen:=by unfold maxLen;omega
      cases hix : ixI d (ord'.map (cOf cl)) 0 with
      | some p =>
        rw [hix] at hfind
        simp only [Option.map_some] at hfind
        have hadd : addO cl ord' y = ord':=by unfold addO;rw [hdc,hix]
        have hpl : plI d (ord'.map (cOf cl)) = (p : Int):=by unfold plI;rw [hix];rfl
        rw [hadd,hpl] at htk
        have hm : to'.map iD ++ [iD (p : Int)] = (to' ++ [(p : Int)]).map iD:=by simp
        repeat' (first|(with_reducible first|apply zw0|apply zw1|apply zw2|apply zw3|apply zw4|apply zw5|apply zw6|apply zw7|apply zw8|apply zw9|apply zw10|apply zw11|apply zw13|apply zw14)|((with_reducible refine zw12 ?_ ?_);rfl)|((with_reducible refine zw16 ?_ ?_ (fun K' hK'=>?_));rfl;rfl;simp only [UN,LM,zn0,zn1,zi0,zi1,zi2,zn2,zn3,zn4,reduceCtorEq,TAS,Int.toNat_natCast,hyg,hj0,hj1,hy0,hy1,hdg,hko,hfind,List.length_map];(repeat (refine And.intro ?_ ?_;focus (clear hK';intros;simp_all;done)));(try (refine hK' _ _ ?_;clear hK' K')))|((with_reducible refine zw15 ?_ ?_);rfl;refine ⟨_,rfl,fun h=>?_,fun h=>?_⟩ <;> try exact absurd h (by decide)))
        (with_reducible refine swp_drawX ?_ ?_ ?_ (⟨⟨[],[]⟩,[],[],[],[]⟩) _ rfl (fun K' hK' gops fin hgops hfin=>?_)
         · kernel_rfl
         · rfl
         · rfl
         repeat' first
           | (refine vcX_dead rfl trivial (by simp only [UN,LM,zn0,zn1,zi0,zi1,zi2,zn2,zn3,zn4,reduceCtorEq,TAS,Eff.env,Eff.st,jkE,jkS,UA,LM];rfl) (by simp only [List.nil_append,List.cons_append];rfl) (by simp only [zn2];rfl) ?_)
           | (refine vcX_step rfl rfl trivial (by simp only [UN,LM,zn0,zn1,zi0,zi1,zi2,zn2,zn3,zn4,reduceCtorEq,TAS,stepX,stepX1,frzR,stepX0,callN,storeE,dAll,setE,callM,mArgs,SV.calm,SV.calms,callB,callP,bArgs,hasR,hins,hin,yes,inX,stepW,callR,effO,srcE,Eff.env,Eff.st,writeOp,callA,pureOp,Bool.or_true,Bool.true_or,Bool.or_self,Bool.or_false,Bool.false_or,Bool.not_true,Bool.not_false,D.flat,D.flats,true_or,or_true,forall_const,UA,hy0,hy1,hdg,hko,hfind,hn3,hn4,hm,List.length_map ];rfl) ?_ (by simp only [UN,LM,zn0,zn1,zi0,zi1,zi2,zn2,zn3,zn4,reduceCtorEq,TAS,Eff.env,Eff.st,jkE,jkS,UA,LM];rfl) (by simp only [UN,LM,zn0,zn1,zi0,zi1,zi2,zn2,zn3,zn4,reduceCtorEq,TAS,Eff.env,Eff.st,jkE,jkS,UA,LM];rfl) (by simp only [List.nil_append,List.cons_append];rfl) (by simp only [zn2];rfl) ?_;focus (first | trivial | ((repeat' (refine And.intro ?_ ?_)) <;> first | trivial | assumption | (clear hK' hfin hgops;intros;simp_all;done))))
         (refine vcX_nil (by subst hfin;kernel_rfl) ?_)
         clear hfin hgops fin gops
         (try (refine hK' _ _ ?_;clear hK' K')))
        repeat' (first|(with_reducible first|apply zw0|apply zw1|apply zw2|apply zw3|apply zw4|apply zw5|apply zw6|apply zw7|apply zw8|apply zw9|apply zw10|apply zw11|apply zw13|apply zw14)|((with_reducible refine zw12 ?_ ?_);rfl)|((with_reducible refine zw16 ?_ ?_ (fun K' hK'=>?_));rfl;rfl;simp only [UN,LM,zn0,zn1,zi0,zi1,zi2,zn2,zn3,zn4,reduceCtorEq,TAS,hw2];(repeat (refine And.intro ?_ ?_;focus (clear hK';intros;simp_all;done)));(try (refine hK' _ _ ?_;clear hK' K')))|((with_reducible refine zw15 ?_ ?_);rfl;refine ⟨_,rfl,fun h=>?_,fun h=>?_⟩ <;> try exact absurd h (by decide)))
        refine ⟨(j + 1,to' ++ [(p : Int)],ord'),⟨(by show j + 1 ≤ to.length;omega),htk⟩,(by show to.length - (j + 1) < to.length - j;omega),by refine sub_of h0 ?_ ?_ ?_ <;> simp only [US,UN,LM,zn0,zn1,zi0,zi1,zi2,zn2,zn3,zn4,reduceCtorEq,TAS]⟩
      | none =>
        rw [hix] at hfind
        simp only [Option.map_none] at hfind
        have hset:=set_mI d (ord'.map (cOf cl)) 0 0 hix
        rw [Nat.zero_add,List.length_map] at hset
        have hadd : addO cl ord' y = ord' ++ [y]:=by unfold addO;rw [hdc,hix]
        have hmc : ord'.map (cOf cl) ++ [d] = (ord' ++ [y]).map (cOf cl):=by rw [List.map_append,List.map_cons,List.map_nil,hdc]
        have hix2:=ixI_none_app hix
        rw [Nat.zero_add,List.length_map,hmc] at hix2
        rw [hmc] at hset
        have hfind2:=find_mI d ((ord' ++ [y]).map (cOf cl)) 0
        rw [hix2] at hfind2
        simp only [Option.map_some] at hfind2
        have hko2:=keyOK_mI d ((ord' ++ [y]).map (cOf cl))
        have hpl : plI d ((ord' ++ [y]).map (cOf cl)) = (ord'.length : Int):=by unfold plI;rw [hix2];rfl
        rw [hadd,hpl] at htk
        have hm : to'.map iD ++ [iD (ord'.length : Int)] = (to' ++ [(ord'.length : Int)]).map iD:=by simp
        have hm2 : ord'.map iD ++ [iD y] = (ord' ++ [y]).map iD:=by simp
        have hn5 : (ord'.length + 1) * 8 ≤ 140737488355328:=by omega
        have hn6 : ord'.length + 1 ≤ maxLen:=by unfold maxLen;omega
        repeat' (first|(with_reducible first|apply zw0|apply zw1|apply zw2|apply zw3|apply zw4|apply zw5|apply zw6|apply zw7|apply zw8|apply zw9|apply zw10|apply zw11|apply zw13|apply zw14)|((with_reducible refine zw12 ?_ ?_);rfl)|((with_reducible refine zw16 ?_ ?_ (fun K' hK'=>?_));rfl;rfl;simp only [UN,LM,zn0,zn1,zi0,zi1,zi2,zn2,zn3,zn4,reduceCtorEq,TAS,Int.toNat_natCast,hyg,hj0,hj1,hy0,hy1,hdg,hko,hfind,hset,hn5,hn6,hm2,List.length_map];(repeat (refine And.intro ?_ ?_;focus (clear hK';intros;simp_all;done)));(try (refine hK' _ _ ?_;clear hK' K')))|((with_reducible refine zw15 ?_ ?_);rfl;refine ⟨_,rfl,fun h=>?_,fun h=>?_⟩ <;> try exact absurd h (by decide)))
        (with_reducible refine swp_drawX ?_ ?_ ?_ (⟨⟨[],[]⟩,[],[],[],[]⟩) _ rfl (fun K' hK' gops fin hgops hfin=>?_)
         · kernel_rfl
         · rfl
         · rfl
         repeat' first
           | (refine vcX_dead rfl trivial (by simp only [UN,LM,zn0,zn1,zi0,zi1,zi2,zn2,zn3,zn4,reduceCtorEq,TAS,Eff.env,Eff.st,jkE,jkS,UA,LM];rfl) (by simp only [List.nil_append,List.cons_append];rfl) (by simp only [zn2];rfl) ?_)
           | (refine vcX_step rfl rfl trivial (by simp only [UN,LM,zn0,zn1,zi0,zi1,zi2,zn2,zn3,zn4,reduceCtorEq,TAS,stepX,stepX1,frzR,stepX0,callN,storeE,dAll,setE,callM,mArgs,SV.calm,SV.calms,callB,callP,bArgs,hasR,hins,hin,yes,inX,stepW,callR,effO,srcE,Eff.env,Eff.st,writeOp,callA,pureOp,Bool.or_true,Bool.true_or,Bool.or_self,Bool.or_false,Bool.false_or,Bool.not_true,Bool.not_false,D.flat,D.flats,true_or,or_true,forall_const,UA,hy0,hy1,hdg,hko2,hfind2,hn3,hn4,hm,List.length_map ];rfl) ?_ (by simp only [UN,LM,zn0,zn1,zi0,zi1,zi2,zn2,zn3,zn4,reduceCtorEq,TAS,Eff.env,Eff.st,jkE,jkS,UA,LM];rfl) (by simp only [UN,LM,zn0,zn1,zi0,zi1,zi2,zn2,zn3,zn4,reduceCtorEq,TAS,Eff.env,Eff.st,jkE,jkS,UA,LM];rfl) (by simp only [List.nil_append,List.cons_append];rfl) (by simp only [zn2];rfl) ?_;focus (first | trivial | ((repeat' (refine And.intro ?_ ?_)) <;> first | trivial | assumption | (clear hK' hfin hgops;intros;simp_all;done))))
         (refine vcX_nil (by subst hfin;kernel_rfl) ?_)
         clear hfin hgops fin gops
         (try (refine hK' _ _ ?_;clear hK' K')))
        repeat' (first|(with_reducible first|apply zw0|apply zw1|apply zw2|apply zw3|apply zw4|apply zw5|apply zw6|apply zw7|apply zw8|apply zw9|apply zw10|apply zw11|apply zw13|apply zw14)|((with_reducible refine zw12 ?_ ?_);rfl)|((with_reducible refine zw16 ?_ ?_ (fun K' hK'=>?_));rfl;rfl;simp only [UN,LM,zn0,zn1,zi0,zi1,zi2,zn2,zn3,zn4,reduceCtorEq,TAS,hw2];(repeat (refine And.intro ?_ ?_;focus (clear hK';intros;simp_all;done)));(try (refine hK' _ _ ?_;clear hK' K')))|((with_reducible refine zw15 ?_ ?_);rfl;refine ⟨_,rfl,fun h=>?_,fun h=>?_⟩ <;> try exact absurd h (by decide)))
        refine ⟨(j + 1,to' ++ [(ord'.length : Int)],ord' ++ [y]),⟨(by show j + 1 ≤ to.length;omega),htk⟩,(by show to.length - (j + 1) < to.length - j;omega),by refine sub_of h0 ?_ ?_ ?_ <;> simp only [US,UN,LM,zn0,zn1,zi0,zi1,zi2,zn2,zn3,zn4,reduceCtorEq,TAS]⟩
    · have hj1 : ¬ (j : Int) < (to.length : Int):=by omega
      rw [List.take_of_length_le (by omega)] at hq
      rw [hq] at hR
      simp only at hR
      have hm : out.map Nd.d ++ [.agg [iD k,iD so,.slc (ls.map sD),.slc (to'.map iD)]] = (out ++ [(⟨k,so,ls,to'⟩ : Nd)]).map Nd.d:=by simp [Nd.d]
      have hsub:=rowO_sub cl to ord
      rw [hq] at hsub
      simp only at hsub
      refine swp_frz [13] h0 (by simp only [Option.isSome_some,SV.frz,SV.frzs,Box.frz,frzE,frzS,inX,keepS,UN,LM,zn0,zn1,zi0,zi1,zi2,zn2,zn3,zn4,reduceCtorEq]) ?_
      simp only [UN,LM,zn0,zn1,zi0,zi1,zi2,zn2,zn3,zn4,reduceCtorEq,TAS,SV.frz,SV.frzs,Box.frz,frzE,frzS,inX,keepS]
      repeat' (first|(with_reducible first|apply zw0|apply zw1|apply zw2|apply zw3|apply zw4|apply zw5|apply zw6|apply zw7|apply zw8|apply zw9|apply zw10|apply zw11|apply zw13|apply zw14)|((with_reducible refine zw12 ?_ ?_);rfl)|((with_reducible refine zw16 ?_ ?_ (fun K' hK'=>?_));rfl;rfl;simp only [UN,LM,zn0,zn1,zi0,zi1,zi2,zn2,zn3,zn4,reduceCtorEq,TAS,hj1,hnout,hnout2,hm,hw1,List.length_map];(repeat (refine And.intro ?_ ?_;focus (clear hK';intros;simp_all;done)));(try (refine hK' _ _ ?_;clear hK' K')))|((with_reducible refine zw15 ?_ ?_);rfl;refine ⟨_,rfl,fun h=>?_,fun h=>?_⟩ <;> try exact absurd h (by decide)))
      refine ⟨(at' + 1,ord',out ++ [⟨k,so,ls,to'⟩]),⟨(by show at' + 1 ≤ ord'.length;omega),hord',(by simp [hout]),f,(by show g.length + 1 - (at' + 1) ≤ f;omega),hR⟩,(by show g.length + 1 - (at' + 1) < g.length + 1 - at';omega),by refine sub_of h0 ?_ ?_ ?_ <;> simp only [US,UN,LM,zn0,zn1,zi0,zi1,zi2,zn2,zn3,zn4,reduceCtorEq,TAS]⟩
  · have ha1 : ¬ (at' : Int) < (ord.length : Int):=by omega
    have : R = out:=by
      rw [← hR]
      cases f with
      | zero=>rfl
      | succ f =>
        unfold lstF
        rw [List.getElem?_eq_none (by omega)]
    rw [this]
    repeat' (first|(with_reducible first|apply zw0|apply zw1|apply zw2|apply zw3|apply zw4|apply zw5|apply zw6|apply zw7|apply zw8|apply zw9|apply zw10|apply zw11|apply zw13|apply zw14)|((with_reducible refine zw12 ?_ ?_);rfl)|((with_reducible refine zw16 ?_ ?_ (fun K' hK'=>?_));rfl;rfl;simp only [UN,LM,zn0,zn1,zi0,zi1,zi2,zn2,zn3,zn4,reduceCtorEq,TAS,ha1,List.length_map];(repeat (refine And.intro ?_ ?_;focus (clear hK';intros;simp_all;done)));(try (refine hK' _ _ ?_;clear hK' K')))|((with_reducible refine zw15 ?_ ?_);rfl;refine ⟨_,rfl,fun h=>?_,fun h=>?_⟩ <;> try exact absurd h (by decide)))
    simp only [Kret,retL,retOne,oneV,UN,LM,zn0,zn1,zi0,zi1,zi2,zn2,zn3,zn4,reduceCtorEq,TAS]
end Go.Proofs.YtgecnlcbdbaneaaDoor
