/- comply.Ends, comply.Stuck, duetkeep.back; a symbolic walk. -/
import Derived.Test.YtgecnlcbdbaneaaDoorHC2
import Derived.Test.YtgecnlcbdbaneaaDoorKB2
import Derived.Test.YtgecnlcbdbaneaaDoorH27
import Derived.Test.YtgecnlcbdbaneaaDoorH11
-- TYPESC
set_option linter.unusedVariables false
set_option linter.unusedSimpArgs false
namespace Go.Proofs.YtgecnlcbdbaneaaDoor
open Go.RowKit Go.Sw
open Nat renaming reduceBEq → zn0, reduceLeDiff → zn1, reduceAdd → zn2, reduceSub → zn3, reduceMul → zn4
open Int renaming reduceLE → zi0, reduceLT → zi1, reduceToNat → zi2
open Go.Sw renaming swp_seq → zw0, swp_block → zw1, swp_skip → zw2, swp_ret → zw3, swp_exit → zw4, swp_label → zw5, kseq_n → zw6, kseq_x → zw7, kseq_r → zw8, kblk_n → zw9, kblk_r → zw10, kblk_xs → zw11, kblk_xn → zw12, kloop_x → zw13, kloop_r → zw14, swp_cond → zw15, swp_regionP → zw16

theorem find_mE (p : Pc) : ∀ (qu : Que) (i : Nat),(hasE p qu = false → findM (cV p) (mE qu) i = none) ∧ (hasE p qu = true → ∃ j d,findM (cV p) (mE qu) i = some (j,.int .i64 d) ∧ (p,d) ∈ qu)
  | [],i=>by simp [hasE,mE,findM]
  | q :: qu,i=>by
    have ih:=find_mE p qu (i + 1)
    simp only [mE,List.map_cons,findM,keq_pc,hasE,List.any_cons] at ih ⊢
    by_cases h : p = q.1
    · subst h
      simp only [decide_true,Bool.true_or,cond_true]
      exact ⟨(fun h=>absurd h (by decide)),(fun _=>⟨i,q.2,rfl,by simp⟩)⟩
    · simp only [h,decide_false,Bool.false_or,cond_false]
      refine ⟨ih.1,fun hh=>?_⟩
      obtain ⟨j,d,h1,h2⟩:=ih.2 hh
      exact ⟨j,d,h1,by simp [h2]⟩
theorem nd_uniq : ∀ {qu : Que},(qu.map (·.1)).Nodup → ∀ {p : Pc} {d d' : Int},(p,d) ∈ qu → (p,d') ∈ qu → d = d'
  | [],_,_,_,_,h,_=>by cases h
  | q :: qu,hn,p,d,d',h,h'=>by
    rw [List.map_cons,List.nodup_cons] at hn
    rcases List.mem_cons.1 h with e | h <;> rcases List.mem_cons.1 h' with e' | h'
    · rw [← e'] at e;exact (Prod.mk.inj e).2
    · exact absurd (List.mem_map.2 ⟨_,h',by rw [← e]⟩) hn.1
    · exact absurd (List.mem_map.2 ⟨_,h,by rw [← e']⟩) hn.1
    · exact nd_uniq hn.2 h h'
theorem QE.pos {n m : Nat} {qu : Que} (h : QE n m qu) {q : Pc × Int} (hq : q ∈ qu) : 1 ≤ q.2 ∧ q.2 ≤ 40000 + 1 ∨ n * m > 40000:=by
  obtain ⟨i,hi,rfl⟩:=List.mem_iff_getElem.1 hq
  have h1:=h.p i _ (List.getElem?_eq_getElem hi)
  have h2:=h.len
  by_cases hb : n * m > 40000
  · exact .inr hb
  · exact .inl ⟨h1.1,by omega⟩
theorem find_at {n m : Nat} {qu : Que} (h : QE n m qu) {p : Pc} {d : Int} (hm : (p,d) ∈ qu) : ∃ j,findM (cV p) (mE qu) 0 = some (j,.int .i64 d):=by
  obtain ⟨j,d',h1,h2⟩:=(find_mE p qu 0).2 (hasE_mem.2 (List.mem_map.2 ⟨_,hm,rfl⟩))
  rw [nd_uniq h.nd hm h2]
  exact ⟨j,h1⟩
def pcD (r : Pc × Int) : D:=r.1.d
def endsA (x y : Tp) : D :=
  if bErr x y = 0 then (if (stuckP (ofP x) (ofP y)).isNone = true then (match endsP (ofP x) (ofP y) with | some n=>.tup [iD n,iD 0] | none=>.tup [iD 0,iD 8]) else .tup [iD 0,iD 7])
  else .tup [iD 0,iD (bErr x y)]
def endsR (r : Option Int) : D:=match r with | some n=>.tup [iD n,iD 0] | none=>.tup [iD 0,iD 8]
set_option maxHeartbeats 16000000 in
set_option maxRecDepth 100000 in
theorem ends_fn (Γ : Gl) (x y : Tp) : DFn Tryd.prog Γ 17 [x.d,y.d] (endsA x y):=by
  have ho:=cof_fn Γ x y
  unfold endsA
  by_cases hc : bErr x y = 0
  rotate_left
  · rw [if_neg hc]
    obtain ⟨A,B,hb⟩:=cof_shape x y hc
    rw [hb] at ho
    have g1 : (bErr x y != 0) = true:=by simpa using hc
    generalize bErr x y = c at ho g1 ⊢
    obtain ⟨k,so,nm,ls,l⟩:=x
    obtain ⟨k',so',nm',ls',l'⟩:=y
    simp only [Tp.d] at ho ⊢
    refine fn_of_swp (N:=92) Tryd.func17 rfl (by decide) rfl rfl (by simp) (fun C h0=>?_)
    simp only [argE]
    repeat' (first|(with_reducible first|apply zw0|apply zw1|apply zw2|apply zw3|apply zw4|apply zw5|apply zw6|apply zw7|apply zw8|apply zw9|apply zw10|apply zw11|apply zw13|apply zw14)|((with_reducible refine zw12 ?_ ?_);rfl)|((with_reducible refine zw16 ?_ ?_ (fun K' hK'=>?_));rfl;rfl;simp only [UN,LM,zn0,zn1,zi0,zi1,zi2,zn2,zn3,zn4,reduceCtorEq,TAS,TBS,TCS];(repeat (refine And.intro ?_ ?_;focus (clear hK';intros;simp_all;done)));(try (refine hK' _ _ ?_;clear hK' K')))|((with_reducible refine zw15 ?_ ?_);rfl;refine ⟨_,rfl,fun h=>?_,fun h=>?_⟩ <;> try exact absurd h (by decide)))
    refine stop_call h0 rfl (by simp only [UN,LM,zn0,zn1,zi0,zi1,zi2,zn2,zn3,zn4,reduceCtorEq]) rfl (by simp only [keepS,UN,LM,zn0,zn1,zi0,zi1,zi2,zn2,zn3,zn4,reduceCtorEq]) (ho) ?_
    simp only [UN,LM,zn0,zn1,zi0,zi1,zi2,zn2,zn3,zn4,reduceCtorEq,TAS,TBS,TCS,inX,dropS, ]
    (repeat (refine And.intro ?_ ?_;focus (clear hK';intros;simp_all;done)))
    (try (refine hK' _ _ ?_;clear hK' K'))
    repeat' (first|(with_reducible first|apply zw0|apply zw1|apply zw2|apply zw3|apply zw4|apply zw5|apply zw6|apply zw7|apply zw8|apply zw9|apply zw10|apply zw11|apply zw13|apply zw14)|((with_reducible refine zw12 ?_ ?_);rfl)|((with_reducible refine zw16 ?_ ?_ (fun K' hK'=>?_));rfl;rfl;simp only [UN,LM,zn0,zn1,zi0,zi1,zi2,zn2,zn3,zn4,reduceCtorEq,TAS,TBS,TCS,g1];(repeat (refine And.intro ?_ ?_;focus (clear hK';intros;simp_all;done)));(try (refine hK' _ _ ?_;clear hK' K')))|((with_reducible refine zw15 ?_ ?_);rfl;refine ⟨_,rfl,fun h=>?_,fun h=>?_⟩ <;> try exact absurd h (by decide)))
    simp only [Kret,retL,retOne,oneV,UN,LM,zn0,zn1,zi0,zi1,zi2,zn2,zn3,zn4,reduceCtorEq,TAS,TBS,TCS]
  rw [if_pos hc]
  obtain ⟨h1,h2⟩:=bErr_zero hc
  have Hg:=ofP_gd h1
  have Hf:=ofP_gd h2
  have hok:=meets_ok Hg Hf
  have hs:=stuck_fn Γ (ofP x) (ofP y) Hg Hf hok
  unfold cofD at ho
  rw [if_pos h1,h2] at ho
  cases hst : stuckP (ofP x) (ofP y) with
  | some w =>
    rw [hst] at hs
    rw [if_neg (by simp)]
    simp only [whyA] at hs
    generalize (ofP x).map Nd.d = A at *
    generalize (ofP y).map Nd.d = B at *
    obtain ⟨k,so,nm,ls,l⟩:=x
    obtain ⟨k',so',nm',ls',l'⟩:=y
    simp only [Tp.d] at ho ⊢
    refine fn_of_swp (N:=92) Tryd.func17 rfl (by decide) rfl rfl (by simp) (fun C h0=>?_)
    simp only [argE]
    repeat' (first|(with_reducible first|apply zw0|apply zw1|apply zw2|apply zw3|apply zw4|apply zw5|apply zw6|apply zw7|apply zw8|apply zw9|apply zw10|apply zw11|apply zw13|apply zw14)|((with_reducible refine zw12 ?_ ?_);rfl)|((with_reducible refine zw16 ?_ ?_ (fun K' hK'=>?_));rfl;rfl;simp only [UN,LM,zn0,zn1,zi0,zi1,zi2,zn2,zn3,zn4,reduceCtorEq,TAS,TBS,TCS];(repeat (refine And.intro ?_ ?_;focus (clear hK';intros;simp_all;done)));(try (refine hK' _ _ ?_;clear hK' K')))|((with_reducible refine zw15 ?_ ?_);rfl;refine ⟨_,rfl,fun h=>?_,fun h=>?_⟩ <;> try exact absurd h (by decide)))
    refine stop_call h0 rfl (by simp only [UN,LM,zn0,zn1,zi0,zi1,zi2,zn2,zn3,zn4,reduceCtorEq]) rfl (by simp only [keepS,UN,LM,zn0,zn1,zi0,zi1,zi2,zn2,zn3,zn4,reduceCtorEq]) (ho) ?_
    simp only [UN,LM,zn0,zn1,zi0,zi1,zi2,zn2,zn3,zn4,reduceCtorEq,TAS,TBS,TCS,inX,dropS, ]
    (repeat (refine And.intro ?_ ?_;focus (clear hK';intros;simp_all;done)))
    (try (refine hK' _ _ ?_;clear hK' K'))
    repeat' (first|(with_reducible first|apply zw0|apply zw1|apply zw2|apply zw3|apply zw4|apply zw5|apply zw6|apply zw7|apply zw8|apply zw9|apply zw10|apply zw11|apply zw13|apply zw14)|((with_reducible refine zw12 ?_ ?_);rfl)|((with_reducible refine zw16 ?_ ?_ (fun K' hK'=>?_));rfl;rfl;simp only [UN,LM,zn0,zn1,zi0,zi1,zi2,zn2,zn3,zn4,reduceCtorEq,TAS,TBS,TCS,bne_self_eq_false];(repeat (refine And.intro ?_ ?_;focus (clear hK';intros;simp_all;done)));(try (refine hK' _ _ ?_;clear hK' K')))|((with_reducible refine zw15 ?_ ?_);rfl;refine ⟨_,rfl,fun h=>?_,fun h=>?_⟩ <;> try exact absurd h (by decide)))
    refine stop_call h0 rfl (by simp only [UN,LM,zn0,zn1,zi0,zi1,zi2,zn2,zn3,zn4,reduceCtorEq]) rfl (by simp only [keepS,UN,LM,zn0,zn1,zi0,zi1,zi2,zn2,zn3,zn4,reduceCtorEq]) (hs) ?_
    simp only [UN,LM,zn0,zn1,zi0,zi1,zi2,zn2,zn3,zn4,reduceCtorEq,TAS,TBS,TCS,inX,dropS, ]
    (repeat (refine And.intro ?_ ?_;focus (clear hK';intros;simp_all;done)))
    (try (refine hK' _ _ ?_;clear hK' K'))
    repeat' (first|(with_reducible first|apply zw0|apply zw1|apply zw2|apply zw3|apply zw4|apply zw5|apply zw6|apply zw7|apply zw8|apply zw9|apply zw10|apply zw11|apply zw13|apply zw14)|((with_reducible refine zw12 ?_ ?_);rfl)|((with_reducible refine zw16 ?_ ?_ (fun K' hK'=>?_));rfl;rfl;simp only [UN,LM,zn0,zn1,zi0,zi1,zi2,zn2,zn3,zn4,reduceCtorEq,TAS,TBS,TCS];(repeat (refine And.intro ?_ ?_;focus (clear hK';intros;simp_all;done)));(try (refine hK' _ _ ?_;clear hK' K')))|((with_reducible refine zw15 ?_ ?_);rfl;refine ⟨_,rfl,fun h=>?_,fun h=>?_⟩ <;> try exact absurd h (by decide)))
    simp only [Kret,retL,retOne,oneV,UN,LM,zn0,zn1,zi0,zi1,zi2,zn2,zn3,zn4,reduceCtorEq,TAS,TBS,TCS]
  | none =>
  rw [hst] at hs
  simp only [whyA] at hs
  show DFn Tryd.prog Γ 17 [x.d,y.d] (endsR (endsP (ofP x) (ofP y)))
  obtain ⟨R,hR⟩ : ∃ R,endsP (ofP x) (ofP y) = R:=⟨_,rfl⟩
  rw [hR]
  unfold endsP at hR
  have hmeets:=fun (p : Pc) r1 r2 r3 r4=>meets_fn Γ (ofP x) (ofP y) p r1 r2 r3 r4 Hg Hf
  clear hst h1 h2 hc
  generalize ofP x = g at *
  generalize ofP y = f at *
  obtain ⟨k,so,nm,ls,l⟩:=x
  obtain ⟨k',so',nm',ls',l'⟩:=y
  have hg0:=Hg.pos
  have hf0:=Hf.pos
  have hbnd : g.length * f.length ≤ 40000:=Nat.mul_le_mul Hg.le Hf.le
  have hko0:=keyOK_pc ⟨0,0⟩ [] (by simp)
  simp only [cV] at hko0
  have hset0 : setM (Value.agg [Value.int .i64 0,Value.int .i64 0].toArray) (.int .i64 1) [] = mE [(⟨0,0⟩,1)]:=rfl
  simp only [Tp.d] at ho ⊢
  refine fn_of_swp (N:=92) Tryd.func17 rfl (by decide) rfl rfl (by simp) (fun C h0=>?_)
  simp only [argE]
  repeat' (first|(with_reducible first|apply zw0|apply zw1|apply zw2|apply zw3|apply zw4|apply zw5|apply zw6|apply zw7|apply zw8|apply zw9|apply zw10|apply zw11|apply zw13|apply zw14)|((with_reducible refine zw12 ?_ ?_);rfl)|((with_reducible refine zw16 ?_ ?_ (fun K' hK'=>?_));rfl;rfl;simp only [UN,LM,zn0,zn1,zi0,zi1,zi2,zn2,zn3,zn4,reduceCtorEq,TAS,TBS,TCS];(repeat (refine And.intro ?_ ?_;focus (clear hK';intros;simp_all;done)));(try (refine hK' _ _ ?_;clear hK' K')))|((with_reducible refine zw15 ?_ ?_);rfl;refine ⟨_,rfl,fun h=>?_,fun h=>?_⟩ <;> try exact absurd h (by decide)))
  refine stop_call h0 rfl (by simp only [UN,LM,zn0,zn1,zi0,zi1,zi2,zn2,zn3,zn4,reduceCtorEq]) rfl (by simp only [keepS,UN,LM,zn0,zn1,zi0,zi1,zi2,zn2,zn3,zn4,reduceCtorEq]) (ho) ?_
  simp only [UN,LM,zn0,zn1,zi0,zi1,zi2,zn2,zn3,zn4,reduceCtorEq,TAS,TBS,TCS,inX,dropS, ]
  (repeat (refine And.intro ?_ ?_;focus (clear hK';intros;simp_all;done)))
  (try (refine hK' _ _ ?_;clear hK' K'))
  repeat' (first|(with_reducible first|apply zw0|apply zw1|apply zw2|apply zw3|apply zw4|apply zw5|apply zw6|apply zw7|apply zw8|apply zw9|apply zw10|apply zw11|apply zw13|apply zw14)|((with_reducible refine zw12 ?_ ?_);rfl)|((with_reducible refine zw16 ?_ ?_ (fun K' hK'=>?_));rfl;rfl;simp only [UN,LM,zn0,zn1,zi0,zi1,zi2,zn2,zn3,zn4,reduceCtorEq,TAS,TBS,TCS,bne_self_eq_false];(repeat (refine And.intro ?_ ?_;focus (clear hK';intros;simp_all;done)));(try (refine hK' _ _ ?_;clear hK' K')))|((with_reducible refine zw15 ?_ ?_);rfl;refine ⟨_,rfl,fun h=>?_,fun h=>?_⟩ <;> try exact absurd h (by decide)))
  refine stop_call h0 rfl (by simp only [UN,LM,zn0,zn1,zi0,zi1,zi2,zn2,zn3,zn4,reduceCtorEq]) rfl (by simp only [keepS,UN,LM,zn0,zn1,zi0,zi1,zi2,zn2,zn3,zn4,reduceCtorEq]) (hs) ?_
  simp only [UN,LM,zn0,zn1,zi0,zi1,zi2,zn2,zn3,zn4,reduceCtorEq,TAS,TBS,TCS,inX,dropS, ]
  (repeat (refine And.intro ?_ ?_;focus (clear hK';intros;simp_all;done)))
  (try (refine hK' _ _ ?_;clear hK' K'))
  repeat' (first|(with_reducible first|apply zw0|apply zw1|apply zw2|apply zw3|apply zw4|apply zw5|apply zw6|apply zw7|apply zw8|apply zw9|apply zw10|apply zw11|apply zw13|apply zw14)|((with_reducible refine zw12 ?_ ?_);rfl)|((with_reducible refine zw16 ?_ ?_ (fun K' hK'=>?_));rfl;rfl;simp only [UN,LM,zn0,zn1,zi0,zi1,zi2,zn2,zn3,zn4,reduceCtorEq,TAS,TBS,TCS,valV_agg,hko0,hset0];(repeat (refine And.intro ?_ ?_;focus (clear hK';intros;simp_all;done)));(try (refine hK' _ _ ?_;clear hK' K')))|((with_reducible refine zw15 ?_ ?_);rfl;refine ⟨_,rfl,fun h=>?_,fun h=>?_⟩ <;> try exact absurd h (by decide)))
  -- TRACE
  refine swp_loop (α := Nat × Que) (fun q=>[(6,.d (.slc (g.map Nd.d))),(7,.d (.slc (f.map Nd.d))),(11,.mp 2),(12,.own 3),(13,.d (iD q.1))]) (fun q=>[(2,.mp (mE q.2)),(3,.row 2 (q.2.map pcD))])
    (fun q=>q.1 ≤ q.2.length ∧ QE g.length f.length q.2 ∧ ∃ u,g.length * f.length + 1 - q.1 ≤ u ∧ endsF g f u q.1 q.2 = R) (fun q=>g.length * f.length + 1 - q.1)
    (0, [(⟨0,0⟩,1)]) ⟨by simp,⟨by simp,by simp;omega,fun i q h=>by
      cases i with
      | zero=>simp at h;subst h;simp
      | succ i=>simp at h⟩,_,Nat.le_refl _,hR⟩ (by simp only [List.map_cons,List.map_nil,pcD,Pc.d];refine sub_of h0 ?_ ?_ ?_ <;> simp only [US,UN,LM,zn0,zn1,zi0,zi1,zi2,zn2,zn3,zn4,reduceCtorEq,TAS,TBS,TCS]) (fun q hq=>?_)
  clear ho hs hko0 hset0
  obtain ⟨at',qu⟩:=q
  obtain ⟨hat,hqi,u,hu,hR⟩:=hq
  simp only at hat hqi hu hR
  have hql:=hqi.len
  have ha0 : (0 : Int) ≤ (at' : Int):=by omega
  by_cases hlt : at' < qu.length
  rotate_left
  · have ha1 : ¬ (at' : Int) < (qu.length : Int):=by omega
    have : R = none:=by
      rw [← hR]
      cases u with
      | zero=>rfl
      | succ u =>
        unfold endsF
        rw [List.getElem?_eq_none (by omega)]
    rw [this]
    repeat' (first|(with_reducible first|apply zw0|apply zw1|apply zw2|apply zw3|apply zw4|apply zw5|apply zw6|apply zw7|apply zw8|apply zw9|apply zw10|apply zw11|apply zw13|apply zw14)|((with_reducible refine zw12 ?_ ?_);rfl)|((with_reducible refine zw16 ?_ ?_ (fun K' hK'=>?_));rfl;rfl;simp only [UN,LM,zn0,zn1,zi0,zi1,zi2,zn2,zn3,zn4,reduceCtorEq,TAS,TBS,TCS,ha1,List.length_map];(repeat (refine And.intro ?_ ?_;focus (clear hK';intros;simp_all;done)));(try (refine hK' _ _ ?_;clear hK' K')))|((with_reducible refine zw15 ?_ ?_);rfl;refine ⟨_,rfl,fun h=>?_,fun h=>?_⟩ <;> try exact absurd h (by decide)))
    simp only [endsR]
    simp only [Kret,retL,retOne,oneV,UN,LM,zn0,zn1,zi0,zi1,zi2,zn2,zn3,zn4,reduceCtorEq,TAS,TBS,TCS]
  obtain ⟨q,hq⟩ : ∃ q,qu[at']? = some q:=⟨qu[at'],by simp [hlt]⟩
  have hqm:=List.mem_of_getElem? hq
  have hqr:=hqi.r q hqm
  have hqp:=hqi.p at' q hq
  have hqg : (qu.map pcD).getD at' default = q.1.d:=by simp [List.getD,hq,pcD]
  obtain ⟨u,rfl⟩ : ∃ u',u = u' + 1:=⟨u - 1,by omega⟩
  unfold endsF at hR
  obtain ⟨p,d⟩:=q
  simp only [hq] at hR
  simp only at hqr hqp
  obtain ⟨⟨r1,r2⟩,r3,r4⟩:=hqr
  have o3:=hok p r1 r2 r3 r4
  have hfit:=hmeets p r1 r2 r3 r4
  have hga:=gAt_d r1 r2
  have ha1 : (at' : Int) < (qu.length : Int):=by omega
  have hw1 : IntKind.i64.wrap ((at' : Int) + 1) = ((at' + 1 : Nat) : Int):=by rw [wrap_in (by omega) (by omega)];omega
  have hwd : IntKind.i64.wrap (d - 1) = d - 1:=wrap_in (by omega) (by omega)
  have hwd1 : IntKind.i64.wrap (d + 1) = d + 1:=wrap_in (by omega) (by omega)
  have hnx : ∀ D,meetsP g f p = D → nextP g f p = D.getD []:=fun D h=>by unfold nextP;rw [h]
  obtain ⟨pa,pb⟩:=p
  simp only [Pc.d] at hqg hfit
  simp only at hga r1 r2 hR
  generalize hXe : gAt g pa = X at *
  obtain ⟨xk,xso,xls,xto⟩:=X
  simp only [Nd.d] at hga hR
  by_cases h1 : xk = 1
  · rw [if_pos h1] at hR
    subst hR
    have g1 : (xk == 1) = true:=by simpa using h1
    obtain ⟨j,hfind⟩:=find_at hqi hqm
    have hko:=keyOK_pc ⟨pa,pb⟩ (mE qu) (mE_keys qu)
    simp only [cV] at hko hfind
    simp only [endsR]
    repeat' (first|(with_reducible first|apply zw0|apply zw1|apply zw2|apply zw3|apply zw4|apply zw5|apply zw6|apply zw7|apply zw8|apply zw9|apply zw10|apply zw11|apply zw13|apply zw14)|((with_reducible refine zw12 ?_ ?_);rfl)|((with_reducible refine zw16 ?_ ?_ (fun K' hK'=>?_));rfl;rfl;simp only [UN,LM,zn0,zn1,zi0,zi1,zi2,zn2,zn3,zn4,reduceCtorEq,TAS,TBS,TCS,ha0,ha1,hqg,r1,r2,hga,g1,Int.toNat_natCast,List.length_map,valV_agg,hko,hfind,hwd];(repeat (refine And.intro ?_ ?_;focus (clear hK';intros;simp_all;done)));(try (refine hK' _ _ ?_;clear hK' K')))|((with_reducible refine zw15 ?_ ?_);rfl;refine ⟨_,rfl,fun h=>?_,fun h=>?_⟩ <;> try exact absurd h (by decide)))
    simp only [Kret,retL,retOne,oneV,UN,LM,zn0,zn1,zi0,zi1,zi2,zn2,zn3,zn4,reduceCtorEq,TAS,TBS,TCS]
  rw [if_neg h1] at hR
  have g1 : (xk == 1) = false:=by simpa using h1
  -- what comes next
  obtain ⟨l,b,hfit,hl,hl6,hlr⟩ : ∃ (l : List (ByteArray × Pc)) (b : Bool),DFn Tryd.prog Γ 58 [.slc (g.map Nd.d),.slc (f.map Nd.d),.agg [iD pa,iD pb]] (.tup [.slc (l.map fun q=>sD q.1),.slc (l.map fun q=>q.2.d),bD b]) ∧ nextP g f ⟨pa,pb⟩ = l ∧ l.length ≤ 6 ∧ ∀ s ∈ l,(0 ≤ s.2.a ∧ s.2.a < (g.length : Int)) ∧ 0 ≤ s.2.b ∧ s.2.b < (f.length : Int):=by
    cases hF : meetsP g f ⟨pa,pb⟩ with
    | none =>
      rw [hF] at hfit
      exact ⟨[],false,hfit,hnx none hF,by simp,fun s hs=>by cases hs⟩
    | some l =>
      rw [hF] at hfit
      exact ⟨l,true,hfit,hnx (some l) hF,(o3 l hF).1,(o3 l hF).2⟩
  rw [hl] at hR
  clear hmeets hnx o3
  repeat' (first|(with_reducible first|apply zw0|apply zw1|apply zw2|apply zw3|apply zw4|apply zw5|apply zw6|apply zw7|apply zw8|apply zw9|apply zw10|apply zw11|apply zw13|apply zw14)|((with_reducible refine zw12 ?_ ?_);rfl)|((with_reducible refine zw16 ?_ ?_ (fun K' hK'=>?_));rfl;rfl;simp only [UN,LM,zn0,zn1,zi0,zi1,zi2,zn2,zn3,zn4,reduceCtorEq,TAS,TBS,TCS,ha0,ha1,hqg,r1,r2,hga,g1,Int.toNat_natCast,List.length_map];(repeat (refine And.intro ?_ ?_;focus (clear hK';intros;simp_all;done)));(try (refine hK' _ _ ?_;clear hK' K')))|((with_reducible refine zw15 ?_ ?_);rfl;refine ⟨_,rfl,fun h=>?_,fun h=>?_⟩ <;> try exact absurd h (by decide)))
  -- TRACE
  refine stop_call h0 rfl (by simp only [UN,LM,zn0,zn1,zi0,zi1,zi2,zn2,zn3,zn4,reduceCtorEq]) rfl (by simp only [keepS,UN,LM,zn0,zn1,zi0,zi1,zi2,zn2,zn3,zn4,reduceCtorEq]) (hfit) ?_
  simp only [UN,LM,zn0,zn1,zi0,zi1,zi2,zn2,zn3,zn4,reduceCtorEq,TAS,TBS,TCS,inX,dropS, ]
  (repeat (refine And.intro ?_ ?_;focus (clear hK';intros;simp_all;done)))
  (try (refine hK' _ _ ?_;clear hK' K'))
  repeat' (first|(with_reducible first|apply zw0|apply zw1|apply zw2|apply zw3|apply zw4|apply zw5|apply zw6|apply zw7|apply zw8|apply zw9|apply zw10|apply zw11|apply zw13|apply zw14)|((with_reducible refine zw12 ?_ ?_);rfl)|((with_reducible refine zw16 ?_ ?_ (fun K' hK'=>?_));rfl;rfl;simp only [UN,LM,zn0,zn1,zi0,zi1,zi2,zn2,zn3,zn4,reduceCtorEq,TAS,TBS,TCS,List.length_map];(repeat (refine And.intro ?_ ?_;focus (clear hK';intros;simp_all;done)));(try (refine hK' _ _ ?_;clear hK' K')))|((with_reducible refine zw15 ?_ ?_);rfl;refine ⟨_,rfl,fun h=>?_,fun h=>?_⟩ <;> try exact absurd h (by decide)))
  -- TRACE
  refine swp_loop (α := Nat) (fun j=>[(6,.d (.slc (g.map Nd.d))),(7,.d (.slc (f.map Nd.d))),(11,.mp 2),(12,.own 3),(13,.d (iD at')),(14,.ref 4 0),(71,.d (.slc (l.map fun q=>q.2.d))),(72,.d (iD l.length)),(73,.d (iD j))]) (fun j=>[(2,.mp (mE ((l.take j).foldl (addE d) qu))),(3,.row 2 (((l.take j).foldl (addE d) qu).map pcD)),(4,.cells [.d (iD pa),.d (iD pb)])])
    (fun j=>j ≤ l.length) (fun j=>l.length - j) 0 (Nat.zero_le _) (by refine sub_of h0 ?_ ?_ ?_ <;> simp only [US,UN,LM,zn0,zn1,zi0,zi1,zi2,zn2,zn3,zn4,reduceCtorEq,TAS,TBS,TCS,List.take_zero,List.foldl_nil]) (fun j hj=>?_)
  have hj : j ≤ l.length:=hj
  have hj0 : (0 : Int) ≤ (j : Int):=by omega
  by_cases hjl : j < l.length
  rotate_left
  · have hj1 : ¬ (j : Int) < (l.length : Int):=by omega
    have hlj : l.take j = l:=List.take_of_length_le (by omega)
    have hqi2:=QE.adds (d:=d) (k:=at') hqp (l:=l) hqi hlt hlr
    have hal:=addsE_len d l qu
    rw [hlj]
    repeat' (first|(with_reducible first|apply zw0|apply zw1|apply zw2|apply zw3|apply zw4|apply zw5|apply zw6|apply zw7|apply zw8|apply zw9|apply zw10|apply zw11|apply zw13|apply zw14)|((with_reducible refine zw12 ?_ ?_);rfl)|((with_reducible refine zw16 ?_ ?_ (fun K' hK'=>?_));rfl;rfl;simp only [UN,LM,zn0,zn1,zi0,zi1,zi2,zn2,zn3,zn4,reduceCtorEq,TAS,TBS,TCS,hj1,hw1];(repeat (refine And.intro ?_ ?_;focus (clear hK';intros;simp_all;done)));(try (refine hK' _ _ ?_;clear hK' K')))|((with_reducible refine zw15 ?_ ?_);rfl;refine ⟨_,rfl,fun h=>?_,fun h=>?_⟩ <;> try exact absurd h (by decide)))
    refine ⟨(at' + 1,l.foldl (addE d) qu),⟨(by show at' + 1 ≤ (l.foldl (addE d) qu).length;omega),hqi2,u,(by show g.length * f.length + 1 - (at' + 1) ≤ u;omega),hR⟩,(by show g.length * f.length + 1 - (at' + 1) < g.length * f.length + 1 - at';omega),by refine sub_of h0 ?_ ?_ ?_ <;> simp only [US,UN,LM,zn0,zn1,zi0,zi1,zi2,zn2,zn3,zn4,reduceCtorEq,TAS,TBS,TCS]⟩
  obtain ⟨x,hx⟩ : ∃ x,l[j]? = some x:=⟨l[j],by simp [hjl]⟩
  have htk : (l.take (j + 1)).foldl (addE d) qu = addE d ((l.take j).foldl (addE d) qu) x:=by rw [List.take_add_one,hx];simp
  have hqi2:=QE.adds (d:=d) (k:=at') hqp (l:=l.take j) hqi hlt (fun s hs=>hlr s (List.mem_of_mem_take hs))
  have hal:=addsE_len d (l.take j) qu
  have hpm : ((⟨pa,pb⟩ : Pc),d) ∈ (l.take j).foldl (addE d) qu:=by
    have:=hal.2 at' hlt
    rw [hq] at this
    exact List.mem_of_getElem? this
  generalize hqj : (l.take j).foldl (addE d) qu = qj at *
  have hqjl:=hqi2.len
  have hxg : (l.map fun q=>q.2.d).getD j default = x.2.d:=by simp [List.getD,hx]
  obtain ⟨name,sa,sb⟩:=x
  have hxg : (l.map fun q=>q.2.d).getD j default = .agg [iD sa,iD sb]:=hxg
  have hj1 : (j : Int) < (l.length : Int):=by omega
  have hw2 : IntKind.i64.wrap ((j : Int) + 1) = ((j + 1 : Nat) : Int):=by rw [wrap_in (by omega) (by omega)];omega
  have hko:=keyOK_pc ⟨sa,sb⟩ (mE qj) (mE_keys qj)
  have hkoP:=keyOK_pc ⟨pa,pb⟩ (mE qj) (mE_keys qj)
  obtain ⟨jp,hfindP⟩:=find_at hqi2 hpm
  have e00 : ((0 : Int) == 0) = true:=by decide
  cases hh : hasE ⟨sa,sb⟩ qj with
  | true =>
    obtain ⟨i,v,hfind,hvm⟩:=(find_mE ⟨sa,sb⟩ qj 0).2 hh
    have hadd : addE d qj (name,⟨sa,sb⟩) = qj:=by unfold addE;rw [if_pos hh]
    rw [hadd] at htk
    have ev : (v == 0) = false:=by
      have:=hqi2.pos hvm
      have : 1 ≤ v:=by
        rcases this with h | h
        · exact h.1
        · omega
      simpa using (by omega : v ≠ 0)
    simp only [cV] at hko hfind
    repeat' (first|(with_reducible first|apply zw0|apply zw1|apply zw2|apply zw3|apply zw4|apply zw5|apply zw6|apply zw7|apply zw8|apply zw9|apply zw10|apply zw11|apply zw13|apply zw14)|((with_reducible refine zw12 ?_ ?_);rfl)|((with_reducible refine zw16 ?_ ?_ (fun K' hK'=>?_));rfl;rfl;simp only [UN,LM,zn0,zn1,zi0,zi1,zi2,zn2,zn3,zn4,reduceCtorEq,TAS,TBS,TCS,Int.toNat_natCast,hj0,hj1,hxg,List.length_map,valV_agg,hko,hfind,ev,hw2];(repeat (refine And.intro ?_ ?_;focus (clear hK';intros;simp_all;done)));(try (refine hK' _ _ ?_;clear hK' K')))|((with_reducible refine zw15 ?_ ?_);rfl;refine ⟨_,rfl,fun h=>?_,fun h=>?_⟩ <;> try exact absurd h (by decide)))
    refine ⟨j + 1,(by show j + 1 ≤ l.length;omega),(by show l.length - (j + 1) < l.length - j;omega),by simp only [htk];refine sub_of h0 ?_ ?_ ?_ <;> simp only [US,UN,LM,zn0,zn1,zi0,zi1,zi2,zn2,zn3,zn4,reduceCtorEq,TAS,TBS,TCS]⟩
  | false =>
    have hfind:=(find_mE ⟨sa,sb⟩ qj 0).1 hh
    have hadd : addE d qj (name,⟨sa,sb⟩) = qj ++ [(⟨sa,sb⟩,d + 1)]:=by unfold addE;rw [if_neg (by simp [hh])]
    rw [hadd] at htk
    have hsm : setM (cV ⟨sa,sb⟩) (.int .i64 (d + 1)) (mE qj) = mE (qj ++ [(⟨sa,sb⟩,d + 1)]):=by
      rw [setM_none hfind];simp [mE]
    simp only [cV] at hko hkoP hfind hfindP hsm
    have hn3 : (qj.length + 1) * 16 ≤ 140737488355328:=by omega
    have hn4 : qj.length + 1 ≤ maxLen:=by unfold maxLen;omega
    have hm : (qj.map pcD) ++ [.agg [iD sa,iD sb]] = (qj ++ [((⟨sa,sb⟩ : Pc),d + 1)]).map pcD:=by simp [pcD,Pc.d]
    repeat' (first|(with_reducible first|apply zw0|apply zw1|apply zw2|apply zw3|apply zw4|apply zw5|apply zw6|apply zw7|apply zw8|apply zw9|apply zw10|apply zw11|apply zw13|apply zw14)|((with_reducible refine zw12 ?_ ?_);rfl)|((with_reducible refine zw16 ?_ ?_ (fun K' hK'=>?_));rfl;rfl;simp only [UN,LM,zn0,zn1,zi0,zi1,zi2,zn2,zn3,zn4,reduceCtorEq,TAS,TBS,TCS,Int.toNat_natCast,hj0,hj1,hxg,List.length_map,valV_agg,hko,hfind,e00];(repeat (refine And.intro ?_ ?_;focus (clear hK';intros;simp_all;done)));(try (refine hK' _ _ ?_;clear hK' K')))|((with_reducible refine zw15 ?_ ?_);rfl;refine ⟨_,rfl,fun h=>?_,fun h=>?_⟩ <;> try exact absurd h (by decide)))
    -- TRACE
    (with_reducible refine swp_drawL ?_ ?_ ?_ (⟨⟨[],[]⟩,[],[],[],[]⟩) _ rfl 6 [6] ([true,true,true,true,true,true,false]).toArray (by decide) ?_ (by decide) (by decide) ?_ (fun K' hK' gops fin hgops hfin=>?_)
     · kernel_rfl
     · rfl
     · rfl
     · kernel_rfl
     · kernel_rfl
     repeat' first
       | (refine vcX_dead rfl trivial (by simp only [UN,LM,zn0,zn1,zi0,zi1,zi2,zn2,zn3,zn4,reduceCtorEq,TAS,TBS,TCS,Eff.env,Eff.st,jkE,jkS,UA,LM];rfl) (by simp only [List.nil_append,List.cons_append];rfl) (by simp only [zn2];rfl) ?_)
       | (refine vcX_step rfl rfl trivial (by simp only [UN,LM,zn0,zn1,zi0,zi1,zi2,zn2,zn3,zn4,reduceCtorEq,TAS,TBS,TCS,stepX,stepX1,frzR,stepX0,callN,storeE,dAll,setE,callM,mArgs,SV.calm,SV.calms,callB,callP,bArgs,hasR,hins,hin,yes,inX,stepW,callR,effO,srcE,Eff.env,Eff.st,writeOp,callA,pureOp,Bool.or_true,Bool.true_or,Bool.or_self,Bool.or_false,Bool.false_or,Bool.not_true,Bool.not_false,D.flat,D.flats,true_or,or_true,forall_const,UA,valV_agg,hkoP,hfindP,hwd1];rfl) ?_ (by simp only [UN,LM,zn0,zn1,zi0,zi1,zi2,zn2,zn3,zn4,reduceCtorEq,TAS,TBS,TCS,Eff.env,Eff.st,jkE,jkS,UA,LM];rfl) (by simp only [UN,LM,zn0,zn1,zi0,zi1,zi2,zn2,zn3,zn4,reduceCtorEq,TAS,TBS,TCS,Eff.env,Eff.st,jkE,jkS,UA,LM];rfl) (by simp only [List.nil_append,List.cons_append];rfl) (by simp only [zn2];rfl) ?_;focus (first | trivial | ((repeat' (refine And.intro ?_ ?_)) <;> first | trivial | assumption | (clear hK' hfin hgops;intros;simp_all;done))))
     (refine vcX_nil (by subst hfin;kernel_rfl) ?_)
     subst hgops
     clear hfin fin)
    refine any_all (rs:=[6]) (by kernel_rfl) (by simp) (fun i hi=>?_)
    simp only [List.mem_cons,List.not_mem_nil,or_false] at hi
    obtain rfl:=hi
    refine ⟨_,rfl,rfl,?_⟩
    refine aop_step rfl rfl (by simp only [UN,LM,zn0,zn1,zi0,zi1,zi2,zn2,zn3,zn4,reduceCtorEq,TAS,TBS,TCS,valV_agg,hko,hsm];rfl) ?_ ?_
    · (repeat (refine And.intro ?_ ?_)) <;> first | trivial | (simp_all;done)
    simp only [UN,LM,zn0,zn1,zi0,zi1,zi2,zn2,zn3,zn4,reduceCtorEq,TAS,TBS,TCS,valV_agg,hko,hsm]
    refine any_done (by kernel_rfl) ?_
    refine hK' _ _ ?_
    clear hK' K'
    repeat' (first|(with_reducible first|apply zw0|apply zw1|apply zw2|apply zw3|apply zw4|apply zw5|apply zw6|apply zw7|apply zw8|apply zw9|apply zw10|apply zw11|apply zw13|apply zw14)|((with_reducible refine zw12 ?_ ?_);rfl)|((with_reducible refine zw16 ?_ ?_ (fun K' hK'=>?_));rfl;rfl;simp only [UN,LM,zn0,zn1,zi0,zi1,zi2,zn2,zn3,zn4,reduceCtorEq,TAS,TBS,TCS,hn3,hn4,hm,hw2,List.length_map];(repeat (refine And.intro ?_ ?_;focus (clear hK';intros;simp_all;done)));(try (refine hK' _ _ ?_;clear hK' K')))|((with_reducible refine zw15 ?_ ?_);rfl;refine ⟨_,rfl,fun h=>?_,fun h=>?_⟩ <;> try exact absurd h (by decide)))
    refine ⟨j + 1,(by show j + 1 ≤ l.length;omega),(by show l.length - (j + 1) < l.length - j;omega),by simp only [htk];refine sub_of h0 ?_ ?_ ?_ <;> simp only [US,UN,LM,zn0,zn1,zi0,zi1,zi2,zn2,zn3,zn4,reduceCtorEq,TAS,TBS,TCS]⟩
def stkA (x y : Tp) : D:=if bErr x y = 0 then (match stuckP (ofP x) (ofP y) with | some l=>.tup [.slc (l.map sD),iD 0] | none=>.tup [.slc [],iD 8]) else .tup [.slc [],iD (bErr x y)]
set_option maxHeartbeats 8000000 in
set_option maxRecDepth 100000 in
theorem Stuck_fn (Γ : Gl) (x y : Tp) : DFn Tryd.prog Γ 19 [x.d,y.d] (stkA x y):=by
  have ho:=cof_fn Γ x y
  unfold stkA
  by_cases hc : bErr x y = 0
  rotate_left
  · rw [if_neg hc]
    obtain ⟨A,B,hb⟩:=cof_shape x y hc
    rw [hb] at ho
    have g1 : (bErr x y != 0) = true:=by simpa using hc
    generalize bErr x y = c at ho g1 ⊢
    obtain ⟨k,so,nm,ls,l⟩:=x
    obtain ⟨k',so',nm',ls',l'⟩:=y
    simp only [Tp.d] at ho ⊢
    refine fn_of_swp (N:=30) Tryd.func19 rfl (by decide) rfl rfl (by simp) (fun C h0=>?_)
    simp only [argE]
    repeat' (first|(with_reducible first|apply zw0|apply zw1|apply zw2|apply zw3|apply zw4|apply zw5|apply zw6|apply zw7|apply zw8|apply zw9|apply zw10|apply zw11|apply zw13|apply zw14)|((with_reducible refine zw12 ?_ ?_);rfl)|((with_reducible refine zw16 ?_ ?_ (fun K' hK'=>?_));rfl;rfl;simp only [UN,LM,zn0,zn1,zi0,zi1,zi2,zn2,zn3,zn4,reduceCtorEq,TAS,TBS,TCS];(repeat (refine And.intro ?_ ?_;focus (clear hK';intros;simp_all;done)));(try (refine hK' _ _ ?_;clear hK' K')))|((with_reducible refine zw15 ?_ ?_);rfl;refine ⟨_,rfl,fun h=>?_,fun h=>?_⟩ <;> try exact absurd h (by decide)))
    refine stop_call h0 rfl (by simp only [UN,LM,zn0,zn1,zi0,zi1,zi2,zn2,zn3,zn4,reduceCtorEq]) rfl (by simp only [keepS,UN,LM,zn0,zn1,zi0,zi1,zi2,zn2,zn3,zn4,reduceCtorEq]) (ho) ?_
    simp only [UN,LM,zn0,zn1,zi0,zi1,zi2,zn2,zn3,zn4,reduceCtorEq,TAS,TBS,TCS,inX,dropS, ]
    (repeat (refine And.intro ?_ ?_;focus (clear hK';intros;simp_all;done)))
    (try (refine hK' _ _ ?_;clear hK' K'))
    repeat' (first|(with_reducible first|apply zw0|apply zw1|apply zw2|apply zw3|apply zw4|apply zw5|apply zw6|apply zw7|apply zw8|apply zw9|apply zw10|apply zw11|apply zw13|apply zw14)|((with_reducible refine zw12 ?_ ?_);rfl)|((with_reducible refine zw16 ?_ ?_ (fun K' hK'=>?_));rfl;rfl;simp only [UN,LM,zn0,zn1,zi0,zi1,zi2,zn2,zn3,zn4,reduceCtorEq,TAS,TBS,TCS,g1];(repeat (refine And.intro ?_ ?_;focus (clear hK';intros;simp_all;done)));(try (refine hK' _ _ ?_;clear hK' K')))|((with_reducible refine zw15 ?_ ?_);rfl;refine ⟨_,rfl,fun h=>?_,fun h=>?_⟩ <;> try exact absurd h (by decide)))
    simp only [Kret,retL,retOne,oneV,UN,LM,zn0,zn1,zi0,zi1,zi2,zn2,zn3,zn4,reduceCtorEq,TAS,TBS,TCS]
  rw [if_pos hc]
  obtain ⟨h1,h2⟩:=bErr_zero hc
  have hs:=stuck_fn Γ (ofP x) (ofP y) (ofP_gd h1) (ofP_gd h2) (meets_ok (ofP_gd h1) (ofP_gd h2))
  unfold cofD at ho
  rw [if_pos h1,h2] at ho
  generalize stuckP (ofP x) (ofP y) = r at *
  generalize (ofP x).map Nd.d = A at *
  generalize (ofP y).map Nd.d = B at *
  obtain ⟨k,so,nm,ls,l⟩:=x
  obtain ⟨k',so',nm',ls',l'⟩:=y
  simp only [Tp.d] at ho ⊢
  cases r with
  | none =>
    simp only [whyA] at hs
    refine fn_of_swp (N:=30) Tryd.func19 rfl (by decide) rfl rfl (by simp) (fun C h0=>?_)
    simp only [argE]
    repeat' (first|(with_reducible first|apply zw0|apply zw1|apply zw2|apply zw3|apply zw4|apply zw5|apply zw6|apply zw7|apply zw8|apply zw9|apply zw10|apply zw11|apply zw13|apply zw14)|((with_reducible refine zw12 ?_ ?_);rfl)|((with_reducible refine zw16 ?_ ?_ (fun K' hK'=>?_));rfl;rfl;simp only [UN,LM,zn0,zn1,zi0,zi1,zi2,zn2,zn3,zn4,reduceCtorEq,TAS,TBS,TCS];(repeat (refine And.intro ?_ ?_;focus (clear hK';intros;simp_all;done)));(try (refine hK' _ _ ?_;clear hK' K')))|((with_reducible refine zw15 ?_ ?_);rfl;refine ⟨_,rfl,fun h=>?_,fun h=>?_⟩ <;> try exact absurd h (by decide)))
    refine stop_call h0 rfl (by simp only [UN,LM,zn0,zn1,zi0,zi1,zi2,zn2,zn3,zn4,reduceCtorEq]) rfl (by simp only [keepS,UN,LM,zn0,zn1,zi0,zi1,zi2,zn2,zn3,zn4,reduceCtorEq]) (ho) ?_
    simp only [UN,LM,zn0,zn1,zi0,zi1,zi2,zn2,zn3,zn4,reduceCtorEq,TAS,TBS,TCS,inX,dropS, ]
    (repeat (refine And.intro ?_ ?_;focus (clear hK';intros;simp_all;done)))
    (try (refine hK' _ _ ?_;clear hK' K'))
    repeat' (first|(with_reducible first|apply zw0|apply zw1|apply zw2|apply zw3|apply zw4|apply zw5|apply zw6|apply zw7|apply zw8|apply zw9|apply zw10|apply zw11|apply zw13|apply zw14)|((with_reducible refine zw12 ?_ ?_);rfl)|((with_reducible refine zw16 ?_ ?_ (fun K' hK'=>?_));rfl;rfl;simp only [UN,LM,zn0,zn1,zi0,zi1,zi2,zn2,zn3,zn4,reduceCtorEq,TAS,TBS,TCS,bne_self_eq_false];(repeat (refine And.intro ?_ ?_;focus (clear hK';intros;simp_all;done)));(try (refine hK' _ _ ?_;clear hK' K')))|((with_reducible refine zw15 ?_ ?_);rfl;refine ⟨_,rfl,fun h=>?_,fun h=>?_⟩ <;> try exact absurd h (by decide)))
    refine stop_call h0 rfl (by simp only [UN,LM,zn0,zn1,zi0,zi1,zi2,zn2,zn3,zn4,reduceCtorEq]) rfl (by simp only [keepS,UN,LM,zn0,zn1,zi0,zi1,zi2,zn2,zn3,zn4,reduceCtorEq]) (hs) ?_
    simp only [UN,LM,zn0,zn1,zi0,zi1,zi2,zn2,zn3,zn4,reduceCtorEq,TAS,TBS,TCS,inX,dropS, ]
    (repeat (refine And.intro ?_ ?_;focus (clear hK';intros;simp_all;done)))
    (try (refine hK' _ _ ?_;clear hK' K'))
    repeat' (first|(with_reducible first|apply zw0|apply zw1|apply zw2|apply zw3|apply zw4|apply zw5|apply zw6|apply zw7|apply zw8|apply zw9|apply zw10|apply zw11|apply zw13|apply zw14)|((with_reducible refine zw12 ?_ ?_);rfl)|((with_reducible refine zw16 ?_ ?_ (fun K' hK'=>?_));rfl;rfl;simp only [UN,LM,zn0,zn1,zi0,zi1,zi2,zn2,zn3,zn4,reduceCtorEq,TAS,TBS,TCS,Bool.not_true,Bool.not_false,cond_true,cond_false];(repeat (refine And.intro ?_ ?_;focus (clear hK';intros;simp_all;done)));(try (refine hK' _ _ ?_;clear hK' K')))|((with_reducible refine zw15 ?_ ?_);rfl;refine ⟨_,rfl,fun h=>?_,fun h=>?_⟩ <;> try exact absurd h (by decide)))
    simp only [Kret,retL,retOne,oneV,UN,LM,zn0,zn1,zi0,zi1,zi2,zn2,zn3,zn4,reduceCtorEq,TAS,TBS,TCS]
  | some w =>
    simp only [whyA] at hs
    refine fn_of_swp (N:=30) Tryd.func19 rfl (by decide) rfl rfl (by simp) (fun C h0=>?_)
    simp only [argE]
    repeat' (first|(with_reducible first|apply zw0|apply zw1|apply zw2|apply zw3|apply zw4|apply zw5|apply zw6|apply zw7|apply zw8|apply zw9|apply zw10|apply zw11|apply zw13|apply zw14)|((with_reducible refine zw12 ?_ ?_);rfl)|((with_reducible refine zw16 ?_ ?_ (fun K' hK'=>?_));rfl;rfl;simp only [UN,LM,zn0,zn1,zi0,zi1,zi2,zn2,zn3,zn4,reduceCtorEq,TAS,TBS,TCS];(repeat (refine And.intro ?_ ?_;focus (clear hK';intros;simp_all;done)));(try (refine hK' _ _ ?_;clear hK' K')))|((with_reducible refine zw15 ?_ ?_);rfl;refine ⟨_,rfl,fun h=>?_,fun h=>?_⟩ <;> try exact absurd h (by decide)))
    refine stop_call h0 rfl (by simp only [UN,LM,zn0,zn1,zi0,zi1,zi2,zn2,zn3,zn4,reduceCtorEq]) rfl (by simp only [keepS,UN,LM,zn0,zn1,zi0,zi1,zi2,zn2,zn3,zn4,reduceCtorEq]) (ho) ?_
    simp only [UN,LM,zn0,zn1,zi0,zi1,zi2,zn2,zn3,zn4,reduceCtorEq,TAS,TBS,TCS,inX,dropS, ]
    (repeat (refine And.intro ?_ ?_;focus (clear hK';intros;simp_all;done)))
    (try (refine hK' _ _ ?_;clear hK' K'))
    repeat' (first|(with_reducible first|apply zw0|apply zw1|apply zw2|apply zw3|apply zw4|apply zw5|apply zw6|apply zw7|apply zw8|apply zw9|apply zw10|apply zw11|apply zw13|apply zw14)|((with_reducible refine zw12 ?_ ?_);rfl)|((with_reducible refine zw16 ?_ ?_ (fun K' hK'=>?_));rfl;rfl;simp only [UN,LM,zn0,zn1,zi0,zi1,zi2,zn2,zn3,zn4,reduceCtorEq,TAS,TBS,TCS,bne_self_eq_false];(repeat (refine And.intro ?_ ?_;focus (clear hK';intros;simp_all;done)));(try (refine hK' _ _ ?_;clear hK' K')))|((with_reducible refine zw15 ?_ ?_);rfl;refine ⟨_,rfl,fun h=>?_,fun h=>?_⟩ <;> try exact absurd h (by decide)))
    refine stop_call h0 rfl (by simp only [UN,LM,zn0,zn1,zi0,zi1,zi2,zn2,zn3,zn4,reduceCtorEq]) rfl (by simp only [keepS,UN,LM,zn0,zn1,zi0,zi1,zi2,zn2,zn3,zn4,reduceCtorEq]) (hs) ?_
    simp only [UN,LM,zn0,zn1,zi0,zi1,zi2,zn2,zn3,zn4,reduceCtorEq,TAS,TBS,TCS,inX,dropS, ]
    (repeat (refine And.intro ?_ ?_;focus (clear hK';intros;simp_all;done)))
    (try (refine hK' _ _ ?_;clear hK' K'))
    repeat' (first|(with_reducible first|apply zw0|apply zw1|apply zw2|apply zw3|apply zw4|apply zw5|apply zw6|apply zw7|apply zw8|apply zw9|apply zw10|apply zw11|apply zw13|apply zw14)|((with_reducible refine zw12 ?_ ?_);rfl)|((with_reducible refine zw16 ?_ ?_ (fun K' hK'=>?_));rfl;rfl;simp only [UN,LM,zn0,zn1,zi0,zi1,zi2,zn2,zn3,zn4,reduceCtorEq,TAS,TBS,TCS,Bool.not_true,Bool.not_false,cond_true,cond_false];(repeat (refine And.intro ?_ ?_;focus (clear hK';intros;simp_all;done)));(try (refine hK' _ _ ?_;clear hK' K')))|((with_reducible refine zw15 ?_ ?_);rfl;refine ⟨_,rfl,fun h=>?_,fun h=>?_⟩ <;> try exact absurd h (by decide)))
    simp only [Kret,retL,retOne,oneV,UN,LM,zn0,zn1,zi0,zi1,zi2,zn2,zn3,zn4,reduceCtorEq,TAS,TBS,TCS]
set_option maxHeartbeats 8000000 in
set_option maxRecDepth 100000 in
theorem keepback_fn (Γ : Gl) {g : List Nd} (Hg : Gd g) : DFn Tryd.prog Γ 21 [.slc (g.map Nd.d),iD 0] (if (backG g).2 = true then .tup [(backG g).1.d,bD true] else .tup [tp0.d,bD false]):=by
  have hB:=Back_fn Γ Hg
  unfold BackA at hB
  generalize backG g = r at *
  obtain ⟨z,v⟩:=r
  generalize g.map Nd.d = A at *
  obtain ⟨zk,zso,znm,zls,zl⟩:=z
  simp only [Tp.d,tp0,Tp.ds,List.map_nil] at hB ⊢
  cases v with
  | true =>
    rw [if_pos rfl] at hB ⊢
    refine fn_of_swp (N:=18) Tryd.func21 rfl (by decide) rfl rfl (by simp) (fun C h0=>?_)
    simp only [argE]
    repeat' (first|(with_reducible first|apply zw0|apply zw1|apply zw2|apply zw3|apply zw4|apply zw5|apply zw6|apply zw7|apply zw8|apply zw9|apply zw10|apply zw11|apply zw13|apply zw14)|((with_reducible refine zw12 ?_ ?_);rfl)|((with_reducible refine zw16 ?_ ?_ (fun K' hK'=>?_));rfl;rfl;simp only [UN,LM,zn0,zn1,zi0,zi1,zi2,zn2,zn3,zn4,reduceCtorEq,TAS,TBS,TCS,bne_self_eq_false];(repeat (refine And.intro ?_ ?_;focus (clear hK';intros;simp_all;done)));(try (refine hK' _ _ ?_;clear hK' K')))|((with_reducible refine zw15 ?_ ?_);rfl;refine ⟨_,rfl,fun h=>?_,fun h=>?_⟩ <;> try exact absurd h (by decide)))
    refine stop_call h0 rfl (by simp only [UN,LM,zn0,zn1,zi0,zi1,zi2,zn2,zn3,zn4,reduceCtorEq]) rfl (by simp only [keepS,UN,LM,zn0,zn1,zi0,zi1,zi2,zn2,zn3,zn4,reduceCtorEq]) (hB) ?_
    simp only [UN,LM,zn0,zn1,zi0,zi1,zi2,zn2,zn3,zn4,reduceCtorEq,TAS,TBS,TCS,inX,dropS, ]
    (repeat (refine And.intro ?_ ?_;focus (clear hK';intros;simp_all;done)))
    (try (refine hK' _ _ ?_;clear hK' K'))
    repeat' (first|(with_reducible first|apply zw0|apply zw1|apply zw2|apply zw3|apply zw4|apply zw5|apply zw6|apply zw7|apply zw8|apply zw9|apply zw10|apply zw11|apply zw13|apply zw14)|((with_reducible refine zw12 ?_ ?_);rfl)|((with_reducible refine zw16 ?_ ?_ (fun K' hK'=>?_));rfl;rfl;simp only [UN,LM,zn0,zn1,zi0,zi1,zi2,zn2,zn3,zn4,reduceCtorEq,TAS,TBS,TCS,beq_self_eq_true];(repeat (refine And.intro ?_ ?_;focus (clear hK';intros;simp_all;done)));(try (refine hK' _ _ ?_;clear hK' K')))|((with_reducible refine zw15 ?_ ?_);rfl;refine ⟨_,rfl,fun h=>?_,fun h=>?_⟩ <;> try exact absurd h (by decide)))
    simp only [Kret,retL,retOne,oneV,UN,LM,zn0,zn1,zi0,zi1,zi2,zn2,zn3,zn4,reduceCtorEq,TAS,TBS,TCS]
  | false =>
    rw [if_neg (by decide)] at hB ⊢
    refine fn_of_swp (N:=18) Tryd.func21 rfl (by decide) rfl rfl (by simp) (fun C h0=>?_)
    simp only [argE]
    repeat' (first|(with_reducible first|apply zw0|apply zw1|apply zw2|apply zw3|apply zw4|apply zw5|apply zw6|apply zw7|apply zw8|apply zw9|apply zw10|apply zw11|apply zw13|apply zw14)|((with_reducible refine zw12 ?_ ?_);rfl)|((with_reducible refine zw16 ?_ ?_ (fun K' hK'=>?_));rfl;rfl;simp only [UN,LM,zn0,zn1,zi0,zi1,zi2,zn2,zn3,zn4,reduceCtorEq,TAS,TBS,TCS,bne_self_eq_false];(repeat (refine And.intro ?_ ?_;focus (clear hK';intros;simp_all;done)));(try (refine hK' _ _ ?_;clear hK' K')))|((with_reducible refine zw15 ?_ ?_);rfl;refine ⟨_,rfl,fun h=>?_,fun h=>?_⟩ <;> try exact absurd h (by decide)))
    have e20 : ((2 : Int) == 0) = false:=by decide
    refine stop_call h0 rfl (by simp only [UN,LM,zn0,zn1,zi0,zi1,zi2,zn2,zn3,zn4,reduceCtorEq]) rfl (by simp only [keepS,UN,LM,zn0,zn1,zi0,zi1,zi2,zn2,zn3,zn4,reduceCtorEq]) (hB) ?_
    simp only [UN,LM,zn0,zn1,zi0,zi1,zi2,zn2,zn3,zn4,reduceCtorEq,TAS,TBS,TCS,inX,dropS, ]
    (repeat (refine And.intro ?_ ?_;focus (clear hK';intros;simp_all;done)))
    (try (refine hK' _ _ ?_;clear hK' K'))
    repeat' (first|(with_reducible first|apply zw0|apply zw1|apply zw2|apply zw3|apply zw4|apply zw5|apply zw6|apply zw7|apply zw8|apply zw9|apply zw10|apply zw11|apply zw13|apply zw14)|((with_reducible refine zw12 ?_ ?_);rfl)|((with_reducible refine zw16 ?_ ?_ (fun K' hK'=>?_));rfl;rfl;simp only [UN,LM,zn0,zn1,zi0,zi1,zi2,zn2,zn3,zn4,reduceCtorEq,TAS,TBS,TCS,e20];(repeat (refine And.intro ?_ ?_;focus (clear hK';intros;simp_all;done)));(try (refine hK' _ _ ?_;clear hK' K')))|((with_reducible refine zw15 ?_ ?_);rfl;refine ⟨_,rfl,fun h=>?_,fun h=>?_⟩ <;> try exact absurd h (by decide)))
    simp only [Kret,retL,retOne,oneV,UN,LM,zn0,zn1,zi0,zi1,zi2,zn2,zn3,zn4,reduceCtorEq,TAS,TBS,TCS]
end Go.Proofs.YtgecnlcbdbaneaaDoor
/- The law ComplyDual; a symbolic walk. -/
-- TYPESC
namespace Go.Proofs.YtgecnlcbdbaneaaDoor
open Go.RowKit Go.Sw
open Nat renaming reduceBEq → zn0, reduceLeDiff → zn1, reduceAdd → zn2, reduceSub → zn3, reduceMul → zn4
open Int renaming reduceLE → zi0, reduceLT → zi1, reduceToNat → zi2
open Go.Sw renaming swp_seq → zw0, swp_block → zw1, swp_skip → zw2, swp_ret → zw3, swp_exit → zw4, swp_label → zw5, kseq_n → zw6, kseq_x → zw7, kseq_r → zw8, kblk_n → zw9, kblk_r → zw10, kblk_xs → zw11, kblk_xn → zw12, kloop_x → zw13, kloop_r → zw14, swp_cond → zw15, swp_regionP → zw16, swp_region → zw17

theorem sameL_rfl : ∀ L : List ByteArray,eqS L L = true
  | []=>rfl
  | x :: L=>by unfold eqS;rw [if_pos rfl];exact sameL_rfl L
theorem stuckF_len {g h : List Nd} (hok : MeetsOK g h) : ∀ (f at' : Nat) (qu : Quc) (path : List ByteArray),QC g.length h.length qu → at' ≤ qu.length → stuckF g h f at' qu = some path → path.length ≤ g.length * h.length
  | 0,at',qu,path,_,_,h=>by simp [stuckF] at h
  | f + 1,at',qu,path,hq,ha,hs=>by
    unfold stuckF at hs
    cases hx : qu[at']? with
    | none=>rw [hx] at hs;cases hs
    | some q =>
      obtain ⟨p,path'⟩:=q
      rw [hx] at hs
      simp only at hs
      have hlt:=(List.getElem?_eq_some_iff.1 hx).1
      have hp:=hq.p at' _ hx
      have hr:=hq.r _ (List.mem_of_getElem? hx)
      have hl:=hq.len
      simp only at hp hr
      cases hm : meetsP g h p with
      | none =>
        rw [hm] at hs
        simp only [Option.some.injEq] at hs
        subst hs
        omega
      | some l =>
        rw [hm] at hs
        simp only at hs
        have hal:=addsC_len path' l qu
        exact stuckF_len hok f (at' + 1) _ path (QC.adds hp hq hlt (hok p hr.1.1 hr.1.2 hr.2.1 hr.2.2 l hm).2) (by omega) hs
theorem stuck_len {g h : List Nd} (Hg : Gd g) (Hh : Gd h) {path : List ByteArray} (hs : stuckP g h = some path) : path.length ≤ 40000:=by
  have g0:=Hg.pos
  have h0:=Hh.pos
  have:=stuckF_len (meets_ok Hg Hh) _ 0 [(⟨0,0⟩,[])] path ⟨by simp,by simp;omega,fun i q h=>by
    cases i with
    | zero=>simp at h;subst h;simp
    | succ i=>simp at h⟩ (by simp) hs
  exact Nat.le_trans this (Nat.mul_le_mul Hg.le Hh.le)
def sE : Tp:=.mk 2 1 noB [] [endT]
def rE : Tp:=.mk 3 1 noB [] [endT]
theorem first_ends : endsA sE rE = .tup [iD 1,iD 0]:=by
  have h1 : bErr sE rE = 0:=by decide +kernel
  have h2 : (stuckP (ofP sE) (ofP rE)).isNone = true:=by decide +kernel
  have h3 : endsP (ofP sE) (ofP rE) = some 1:=by decide +kernel
  unfold endsA
  rw [if_pos h1,if_pos h2,h3]
theorem ends_form (x y : Tp) : ∃ n e : Int,endsA x y = .tup [iD n,iD e]:=by
  unfold endsA
  split
  · split
    · split
      · exact ⟨_,_,rfl⟩
      · exact ⟨_,_,rfl⟩
    · exact ⟨_,_,rfl⟩
  · exact ⟨_,_,rfl⟩
theorem endsA_sw {x y : Tp} (h : bErr x y = 0) : endsA y x = endsA x y:=by
  obtain ⟨h1,h2⟩:=bErr_zero h
  unfold endsA
  rw [if_pos h,if_pos (bErr_sw.1 h),stuck_sw (ofP x) (ofP y)]
  cases hs : stuckP (ofP x) (ofP y) with
  | none=>rw [ends_sw (ofP_gd h1) (ofP_gd h2) hs]
  | some w=>rfl
theorem stk_form {x y : Tp} (h : bErr x y = 0) : ∃ (L : List ByteArray) (e : Int),stkA x y = .tup [.slc (L.map sD),iD e] ∧ stkA y x = .tup [.slc (L.map sD),iD e] ∧ L.length ≤ 40000 ∧ doP x y = (e == 8):=by
  obtain ⟨h1,h2⟩:=bErr_zero h
  unfold stkA doP
  rw [if_pos h,if_pos h,if_pos (bErr_sw.1 h),stuck_sw (ofP x) (ofP y)]
  cases hs : stuckP (ofP x) (ofP y) with
  | none=>exact ⟨[],8,rfl,rfl,by simp,rfl⟩
  | some w=>exact ⟨w,0,rfl,rfl,stuck_len (ofP_gd h1) (ofP_gd h2) hs,rfl⟩
theorem do_other {x : Tp} (h : tCheck x = 0) (hb : (backG (dG x)).2 = true) : bErr x (backG (dG x)).1 = 0 ∧ doP x (backG (dG x)).1 = true:=by
  have G:=dG_gd h
  obtain ⟨h1,h2⟩:=back_spec G.pos G.ok G.sh G.le hb
  have e:=bErr_of h h1
  refine ⟨e,(do_iff e).2 fun n=>?_⟩
  rw [h2 n,(dG_good h).2.2.2.2 n,dT_inv]
  exact sub_refl n _
set_option maxHeartbeats 16000000 in
set_option maxRecDepth 100000 in
theorem complyDualLaw (Γ : Gl) (hΓ : PowT Γ) (x y : Tp) : DFn Tryd.prog Γ 4 [x.d,y.d] (.v (.bool true)):=by
  have hF:=ends_fn Γ sE rE
  rw [first_ends] at hF
  simp only [sE,rE,endT,Tp.d,Tp.ds,List.map_nil] at hF
  have hD1:=do_fn Γ x y
  have hD2:=do_fn Γ y x
  by_cases hc : bErr x y = 0
  rotate_left
  · have hc2 : bErr y x ≠ 0:=fun e=>hc (bErr_sw.1 e)
    have e1 : doP x y = false:=by unfold doP;rw [if_neg hc]
    have e2 : doP y x = false:=by unfold doP;rw [if_neg hc2]
    rw [e1] at hD1
    rw [e2] at hD2
    have g1 : (bErr x y != 0) = true:=by simpa using hc
    have g2 : (bErr y x != 0) = true:=by simpa using hc2
    generalize bErr x y = c1 at *
    generalize bErr y x = c2 at *
    obtain ⟨k,so,nm,ls,l⟩:=x
    obtain ⟨k',so',nm',ls',l'⟩:=y
    simp only [Tp.d] at hD1 hD2 ⊢
    refine fn_of_swp (N:=145) Tryd.func4 rfl (by decide) rfl rfl (by simp) (fun C h0=>?_)
    simp only [argE]
    refine zw0 ?_
    (with_reducible refine zw17 ?_ (fun K' hK'=>?_)
     · rfl
     simp only [UN,LM,zn0,zn1,zi0,zi1,zi2,zn2,zn3,zn4,reduceCtorEq,TAS,TBS,TCS]
     (repeat (refine And.intro ?_ ?_;focus (clear hK';intros;simp_all;done))))
    refine hK' _ _ ?_
    clear hK' K'
    refine zw6 ?_
    refine zw0 ?_
    refine zw0 ?_
    -- TRACE
    (with_reducible refine swp_regionS (fun K' hK'=>?_))
    refine vcTo_ok 6 rfl ?_
    simp only [UN,LM,zn0,zn1,zi0,zi1,zi2,zn2,zn3,zn4,reduceCtorEq,TAS,TBS,TCS,vcTo]
    (repeat (refine And.intro ?_ ?_;focus (clear hK';intros;simp_all;done)))
    refine stop_frz [2,3] h0 (by simp only [Option.isSome_some,SV.frz,SV.frzs,Box.frz,frzE,frzS,inX,keepS,UN,LM,zn0,zn1,zi0,zi1,zi2,zn2,zn3,zn4,reduceCtorEq]) ?_
    simp only [UN,LM,zn0,zn1,zi0,zi1,zi2,zn2,zn3,zn4,reduceCtorEq,TAS,TBS,TCS,SV.frz,SV.frzs,Box.frz,frzE,frzS,inX,keepS]
    refine stop_callF rfl (by simp only [UN,LM,zn0,zn1,zi0,zi1,zi2,zn2,zn3,zn4,reduceCtorEq]) rfl rfl (hF) ?_
    simp only [UN,LM,zn0,zn1,zi0,zi1,zi2,zn2,zn3,zn4,reduceCtorEq,TAS,TBS,TCS,inX,dropS, ]
    (repeat (refine And.intro ?_ ?_;focus (clear hK';intros;simp_all;done)))
    (try (refine hK' _ _ ?_;clear hK' K'))
    repeat' (first|(with_reducible first|apply zw0|apply zw1|apply zw2|apply zw3|apply zw4|apply zw5|apply zw6|apply zw7|apply zw8|apply zw9|apply zw10|apply zw11|apply zw13|apply zw14)|((with_reducible refine zw12 ?_ ?_);rfl)|((with_reducible refine zw16 ?_ ?_ (fun K' hK'=>?_));rfl;rfl;simp only [UN,LM,zn0,zn1,zi0,zi1,zi2,zn2,zn3,zn4,reduceCtorEq,TAS,TBS,TCS,bne_self_eq_false,Bool.not_true,Bool.not_false,cond_true,cond_false];(repeat (refine And.intro ?_ ?_;focus (clear hK';intros;simp_all;done)));(try (refine hK' _ _ ?_;clear hK' K')))|((with_reducible refine zw15 ?_ ?_);rfl;refine ⟨_,rfl,fun h=>?_,fun h=>?_⟩ <;> try exact absurd h (by decide)))
    refine stop_call h0 rfl (by simp only [UN,LM,zn0,zn1,zi0,zi1,zi2,zn2,zn3,zn4,reduceCtorEq]) rfl (by simp only [keepS,UN,LM,zn0,zn1,zi0,zi1,zi2,zn2,zn3,zn4,reduceCtorEq]) (hD1) ?_
    simp only [UN,LM,zn0,zn1,zi0,zi1,zi2,zn2,zn3,zn4,reduceCtorEq,TAS,TBS,TCS,inX,dropS, ]
    (repeat (refine And.intro ?_ ?_;focus (clear hK';intros;simp_all;done)))
    (try (refine hK' _ _ ?_;clear hK' K'))
    repeat' (first|(with_reducible first|apply zw0|apply zw1|apply zw2|apply zw3|apply zw4|apply zw5|apply zw6|apply zw7|apply zw8|apply zw9|apply zw10|apply zw11|apply zw13|apply zw14)|((with_reducible refine zw12 ?_ ?_);rfl)|((with_reducible refine zw16 ?_ ?_ (fun K' hK'=>?_));rfl;rfl;simp only [UN,LM,zn0,zn1,zi0,zi1,zi2,zn2,zn3,zn4,reduceCtorEq,TAS,TBS,TCS];(repeat (refine And.intro ?_ ?_;focus (clear hK';intros;simp_all;done)));(try (refine hK' _ _ ?_;clear hK' K')))|((with_reducible refine zw15 ?_ ?_);rfl;refine ⟨_,rfl,fun h=>?_,fun h=>?_⟩ <;> try exact absurd h (by decide)))
    refine stop_call h0 rfl (by simp only [UN,LM,zn0,zn1,zi0,zi1,zi2,zn2,zn3,zn4,reduceCtorEq]) rfl (by simp only [keepS,UN,LM,zn0,zn1,zi0,zi1,zi2,zn2,zn3,zn4,reduceCtorEq]) (hD2) ?_
    simp only [UN,LM,zn0,zn1,zi0,zi1,zi2,zn2,zn3,zn4,reduceCtorEq,TAS,TBS,TCS,inX,dropS, ]
    (repeat (refine And.intro ?_ ?_;focus (clear hK';intros;simp_all;done)))
    (try (refine hK' _ _ ?_;clear hK' K'))
    repeat' (first|(with_reducible first|apply zw0|apply zw1|apply zw2|apply zw3|apply zw4|apply zw5|apply zw6|apply zw7|apply zw8|apply zw9|apply zw10|apply zw11|apply zw13|apply zw14)|((with_reducible refine zw12 ?_ ?_);rfl)|((with_reducible refine zw16 ?_ ?_ (fun K' hK'=>?_));rfl;rfl;simp only [UN,LM,zn0,zn1,zi0,zi1,zi2,zn2,zn3,zn4,reduceCtorEq,TAS,TBS,TCS,g1,g2,Bool.not_true,Bool.not_false,cond_true,cond_false];(repeat (refine And.intro ?_ ?_;focus (clear hK';intros;simp_all;done)));(try (refine hK' _ _ ?_;clear hK' K')))|((with_reducible refine zw15 ?_ ?_);rfl;refine ⟨_,rfl,fun h=>?_,fun h=>?_⟩ <;> try exact absurd h (by decide)))
    simp only [Kret,retL,retOne,oneV,UN,LM,zn0,zn1,zi0,zi1,zi2,zn2,zn3,zn4,reduceCtorEq,TAS,TBS,TCS]
  obtain ⟨h1,h2⟩:=bErr_zero hc
  have hc2 : bErr y x = 0:=bErr_sw.1 hc
  rw [hc] at hD1
  rw [hc2,do_sw] at hD2
  have hE1:=ends_fn Γ x y
  have hE2:=ends_fn Γ y x
  rw [endsA_sw hc] at hE2
  obtain ⟨n,e,he⟩:=ends_form x y
  rw [he] at hE1 hE2
  have hS1:=Stuck_fn Γ x y
  have hS2:=Stuck_fn Γ y x
  obtain ⟨L,e2,s1,s2,hL,hdo⟩:=stk_form hc
  rw [s1] at hS1
  rw [s2] at hS2
  have hSm:=sameL_fn Γ L L (by omega)
  rw [sameL_rfl L] at hSm
  have hO:=dOf_fn Γ hΓ x
  rw [h1] at hO
  have hK:=keepback_fn Γ (dG_gd h1)
  have hoth:=do_other h1
  have hD3:=do_fn Γ x (backG (dG x)).1
  rw [hdo] at hD1 hD2
  generalize hz : backG (dG x) = z at *
  obtain ⟨z,v⟩:=z
  generalize (dG x).map Nd.d = A at *
  have bb : ∀ b : Bool,(b != b) = false:=fun b=>by cases b <;> rfl
  have bb2 : ((e2 == 8) != (e2 == 8)) = false:=bb _
  generalize hq : (e2 == 8) = q at *
  clear hdo s1 s2 he
  obtain ⟨k,so,nm,ls,l⟩:=x
  obtain ⟨k',so',nm',ls',l'⟩:=y
  obtain ⟨zk,zso,znm,zls,zl⟩:=z
  simp only [Tp.d,tp0,Tp.ds,List.map_nil] at hD1 hD2 hE1 hE2 hS1 hS2 hO hK hD3 ⊢
  cases v with
  | false =>
    rw [if_neg (by decide)] at hK
    refine fn_of_swp (N:=145) Tryd.func4 rfl (by decide) rfl rfl (by simp) (fun C h0=>?_)
    simp only [argE]
    refine zw0 ?_
    (with_reducible refine zw17 ?_ (fun K' hK'=>?_)
     · rfl
     simp only [UN,LM,zn0,zn1,zi0,zi1,zi2,zn2,zn3,zn4,reduceCtorEq,TAS,TBS,TCS]
     (repeat (refine And.intro ?_ ?_;focus (clear hK';intros;simp_all;done))))
    refine hK' _ _ ?_
    clear hK' K'
    refine zw6 ?_
    refine zw0 ?_
    refine zw0 ?_
    (with_reducible refine swp_regionS (fun K' hK'=>?_))
    refine vcTo_ok 6 rfl ?_
    simp only [UN,LM,zn0,zn1,zi0,zi1,zi2,zn2,zn3,zn4,reduceCtorEq,TAS,TBS,TCS,vcTo]
    (repeat (refine And.intro ?_ ?_;focus (clear hK';intros;simp_all;done)))
    refine stop_frz [2,3] h0 (by simp only [Option.isSome_some,SV.frz,SV.frzs,Box.frz,frzE,frzS,inX,keepS,UN,LM,zn0,zn1,zi0,zi1,zi2,zn2,zn3,zn4,reduceCtorEq]) ?_
    simp only [UN,LM,zn0,zn1,zi0,zi1,zi2,zn2,zn3,zn4,reduceCtorEq,TAS,TBS,TCS,SV.frz,SV.frzs,Box.frz,frzE,frzS,inX,keepS]
    refine stop_callF rfl (by simp only [UN,LM,zn0,zn1,zi0,zi1,zi2,zn2,zn3,zn4,reduceCtorEq]) rfl rfl (hF) ?_
    simp only [UN,LM,zn0,zn1,zi0,zi1,zi2,zn2,zn3,zn4,reduceCtorEq,TAS,TBS,TCS,inX,dropS, ]
    (repeat (refine And.intro ?_ ?_;focus (clear hK';intros;simp_all;done)))
    (try (refine hK' _ _ ?_;clear hK' K'))
    repeat' (first|(with_reducible first|apply zw0|apply zw1|apply zw2|apply zw3|apply zw4|apply zw5|apply zw6|apply zw7|apply zw8|apply zw9|apply zw10|apply zw11|apply zw13|apply zw14)|((with_reducible refine zw12 ?_ ?_);rfl)|((with_reducible refine zw16 ?_ ?_ (fun K' hK'=>?_));rfl;rfl;simp only [UN,LM,zn0,zn1,zi0,zi1,zi2,zn2,zn3,zn4,reduceCtorEq,TAS,TBS,TCS,bne_self_eq_false,Bool.not_true,Bool.not_false,cond_true,cond_false];(repeat (refine And.intro ?_ ?_;focus (clear hK';intros;simp_all;done)));(try (refine hK' _ _ ?_;clear hK' K')))|((with_reducible refine zw15 ?_ ?_);rfl;refine ⟨_,rfl,fun h=>?_,fun h=>?_⟩ <;> try exact absurd h (by decide)))
    refine stop_call h0 rfl (by simp only [UN,LM,zn0,zn1,zi0,zi1,zi2,zn2,zn3,zn4,reduceCtorEq]) rfl (by simp only [keepS,UN,LM,zn0,zn1,zi0,zi1,zi2,zn2,zn3,zn4,reduceCtorEq]) (hD1) ?_
    simp only [UN,LM,zn0,zn1,zi0,zi1,zi2,zn2,zn3,zn4,reduceCtorEq,TAS,TBS,TCS,inX,dropS, ]
    (repeat (refine And.intro ?_ ?_;focus (clear hK';intros;simp_all;done)))
    (try (refine hK' _ _ ?_;clear hK' K'))
    repeat' (first|(with_reducible first|apply zw0|apply zw1|apply zw2|apply zw3|apply zw4|apply zw5|apply zw6|apply zw7|apply zw8|apply zw9|apply zw10|apply zw11|apply zw13|apply zw14)|((with_reducible refine zw12 ?_ ?_);rfl)|((with_reducible refine zw16 ?_ ?_ (fun K' hK'=>?_));rfl;rfl;simp only [UN,LM,zn0,zn1,zi0,zi1,zi2,zn2,zn3,zn4,reduceCtorEq,TAS,TBS,TCS];(repeat (refine And.intro ?_ ?_;focus (clear hK';intros;simp_all;done)));(try (refine hK' _ _ ?_;clear hK' K')))|((with_reducible refine zw15 ?_ ?_);rfl;refine ⟨_,rfl,fun h=>?_,fun h=>?_⟩ <;> try exact absurd h (by decide)))
    refine stop_call h0 rfl (by simp only [UN,LM,zn0,zn1,zi0,zi1,zi2,zn2,zn3,zn4,reduceCtorEq]) rfl (by simp only [keepS,UN,LM,zn0,zn1,zi0,zi1,zi2,zn2,zn3,zn4,reduceCtorEq]) (hD2) ?_
    simp only [UN,LM,zn0,zn1,zi0,zi1,zi2,zn2,zn3,zn4,reduceCtorEq,TAS,TBS,TCS,inX,dropS, ]
    (repeat (refine And.intro ?_ ?_;focus (clear hK';intros;simp_all;done)))
    (try (refine hK' _ _ ?_;clear hK' K'))
    repeat' (first|(with_reducible first|apply zw0|apply zw1|apply zw2|apply zw3|apply zw4|apply zw5|apply zw6|apply zw7|apply zw8|apply zw9|apply zw10|apply zw11|apply zw13|apply zw14)|((with_reducible refine zw12 ?_ ?_);rfl)|((with_reducible refine zw16 ?_ ?_ (fun K' hK'=>?_));rfl;rfl;simp only [UN,LM,zn0,zn1,zi0,zi1,zi2,zn2,zn3,zn4,reduceCtorEq,TAS,TBS,TCS,bne_self_eq_false,Bool.not_true,Bool.not_false,cond_true,cond_false];(repeat (refine And.intro ?_ ?_;focus (clear hK';intros;simp_all;done)));(try (refine hK' _ _ ?_;clear hK' K')))|((with_reducible refine zw15 ?_ ?_);rfl;refine ⟨_,rfl,fun h=>?_,fun h=>?_⟩ <;> try exact absurd h (by decide)))
    refine stop_call h0 rfl (by simp only [UN,LM,zn0,zn1,zi0,zi1,zi2,zn2,zn3,zn4,reduceCtorEq]) rfl (by simp only [keepS,UN,LM,zn0,zn1,zi0,zi1,zi2,zn2,zn3,zn4,reduceCtorEq]) (hE1) ?_
    simp only [UN,LM,zn0,zn1,zi0,zi1,zi2,zn2,zn3,zn4,reduceCtorEq,TAS,TBS,TCS,inX,dropS, ]
    (repeat (refine And.intro ?_ ?_;focus (clear hK';intros;simp_all;done)))
    (try (refine hK' _ _ ?_;clear hK' K'))
    repeat' (first|(with_reducible first|apply zw0|apply zw1|apply zw2|apply zw3|apply zw4|apply zw5|apply zw6|apply zw7|apply zw8|apply zw9|apply zw10|apply zw11|apply zw13|apply zw14)|((with_reducible refine zw12 ?_ ?_);rfl)|((with_reducible refine zw16 ?_ ?_ (fun K' hK'=>?_));rfl;rfl;simp only [UN,LM,zn0,zn1,zi0,zi1,zi2,zn2,zn3,zn4,reduceCtorEq,TAS,TBS,TCS];(repeat (refine And.intro ?_ ?_;focus (clear hK';intros;simp_all;done)));(try (refine hK' _ _ ?_;clear hK' K')))|((with_reducible refine zw15 ?_ ?_);rfl;refine ⟨_,rfl,fun h=>?_,fun h=>?_⟩ <;> try exact absurd h (by decide)))
    refine stop_call h0 rfl (by simp only [UN,LM,zn0,zn1,zi0,zi1,zi2,zn2,zn3,zn4,reduceCtorEq]) rfl (by simp only [keepS,UN,LM,zn0,zn1,zi0,zi1,zi2,zn2,zn3,zn4,reduceCtorEq]) (hE2) ?_
    simp only [UN,LM,zn0,zn1,zi0,zi1,zi2,zn2,zn3,zn4,reduceCtorEq,TAS,TBS,TCS,inX,dropS, ]
    (repeat (refine And.intro ?_ ?_;focus (clear hK';intros;simp_all;done)))
    (try (refine hK' _ _ ?_;clear hK' K'))
    repeat' (first|(with_reducible first|apply zw0|apply zw1|apply zw2|apply zw3|apply zw4|apply zw5|apply zw6|apply zw7|apply zw8|apply zw9|apply zw10|apply zw11|apply zw13|apply zw14)|((with_reducible refine zw12 ?_ ?_);rfl)|((with_reducible refine zw16 ?_ ?_ (fun K' hK'=>?_));rfl;rfl;simp only [UN,LM,zn0,zn1,zi0,zi1,zi2,zn2,zn3,zn4,reduceCtorEq,TAS,TBS,TCS];(repeat (refine And.intro ?_ ?_;focus (clear hK';intros;simp_all;done)));(try (refine hK' _ _ ?_;clear hK' K')))|((with_reducible refine zw15 ?_ ?_);rfl;refine ⟨_,rfl,fun h=>?_,fun h=>?_⟩ <;> try exact absurd h (by decide)))
    refine stop_call h0 rfl (by simp only [UN,LM,zn0,zn1,zi0,zi1,zi2,zn2,zn3,zn4,reduceCtorEq]) rfl (by simp only [keepS,UN,LM,zn0,zn1,zi0,zi1,zi2,zn2,zn3,zn4,reduceCtorEq]) (hS1) ?_
    simp only [UN,LM,zn0,zn1,zi0,zi1,zi2,zn2,zn3,zn4,reduceCtorEq,TAS,TBS,TCS,inX,dropS, ]
    (repeat (refine And.intro ?_ ?_;focus (clear hK';intros;simp_all;done)))
    (try (refine hK' _ _ ?_;clear hK' K'))
    repeat' (first|(with_reducible first|apply zw0|apply zw1|apply zw2|apply zw3|apply zw4|apply zw5|apply zw6|apply zw7|apply zw8|apply zw9|apply zw10|apply zw11|apply zw13|apply zw14)|((with_reducible refine zw12 ?_ ?_);rfl)|((with_reducible refine zw16 ?_ ?_ (fun K' hK'=>?_));rfl;rfl;simp only [UN,LM,zn0,zn1,zi0,zi1,zi2,zn2,zn3,zn4,reduceCtorEq,TAS,TBS,TCS];(repeat (refine And.intro ?_ ?_;focus (clear hK';intros;simp_all;done)));(try (refine hK' _ _ ?_;clear hK' K')))|((with_reducible refine zw15 ?_ ?_);rfl;refine ⟨_,rfl,fun h=>?_,fun h=>?_⟩ <;> try exact absurd h (by decide)))
    refine stop_call h0 rfl (by simp only [UN,LM,zn0,zn1,zi0,zi1,zi2,zn2,zn3,zn4,reduceCtorEq]) rfl (by simp only [keepS,UN,LM,zn0,zn1,zi0,zi1,zi2,zn2,zn3,zn4,reduceCtorEq]) (hS2) ?_
    simp only [UN,LM,zn0,zn1,zi0,zi1,zi2,zn2,zn3,zn4,reduceCtorEq,TAS,TBS,TCS,inX,dropS, ]
    (repeat (refine And.intro ?_ ?_;focus (clear hK';intros;simp_all;done)))
    (try (refine hK' _ _ ?_;clear hK' K'))
    refine zw6 ?_
    repeat (with_reducible refine zw0 ?_)
    (with_reducible refine swp_regionA ?_ ( [(21,bD true)]) (fun K' hK'=>?_)
     · rfl
     simp only [UN,LM,zn0,zn1,zi0,zi1,zi2,zn2,zn3,zn4,reduceCtorEq,TAS,TBS,TCS,vcA,stepA,callA,rst,lksA,Oper.looksAt,Op.operands,pureOp,Call.operands,List.filterMap_cons,List.filterMap_nil,Option.toList_none,Option.toList_some,Option.bind_some,Option.bind_none,List.getElem?_toArray,Array.toList_append,List.append_nil,D.flat,D.flats,true_or,or_true,forall_const,hSm,bb,bne_self_eq_false,hq,Bool.not_true,Bool.not_false,cond_true,cond_false ]
     (repeat (refine And.intro ?_ ?_;focus (clear hK';intros;simp_all;done)))
     (try (refine hK' _ _ ?_;clear hK' K')))
    repeat' (first|(with_reducible first|apply zw0|apply zw1|apply zw2|apply zw3|apply zw4|apply zw5|apply zw6|apply zw7|apply zw8|apply zw9|apply zw10|apply zw11|apply zw13|apply zw14)|((with_reducible refine zw12 ?_ ?_);rfl)|((with_reducible refine zw16 ?_ ?_ (fun K' hK'=>?_));rfl;rfl;simp only [UN,LM,zn0,zn1,zi0,zi1,zi2,zn2,zn3,zn4,reduceCtorEq,TAS,TBS,TCS,bb,bne_self_eq_false,hq,Bool.not_true,Bool.not_false,cond_true,cond_false];(repeat (refine And.intro ?_ ?_;focus (clear hK';intros;simp_all;done)));(try (refine hK' _ _ ?_;clear hK' K')))|((with_reducible refine zw15 ?_ ?_);rfl;refine ⟨_,rfl,fun h=>?_,fun h=>?_⟩ <;> try exact absurd h (by decide)))
    refine stop_call h0 rfl (by simp only [UN,LM,zn0,zn1,zi0,zi1,zi2,zn2,zn3,zn4,reduceCtorEq]) rfl (by simp only [keepS,UN,LM,zn0,zn1,zi0,zi1,zi2,zn2,zn3,zn4,reduceCtorEq]) (hO) ?_
    simp only [UN,LM,zn0,zn1,zi0,zi1,zi2,zn2,zn3,zn4,reduceCtorEq,TAS,TBS,TCS,inX,dropS, ]
    (repeat (refine And.intro ?_ ?_;focus (clear hK';intros;simp_all;done)))
    (try (refine hK' _ _ ?_;clear hK' K'))
    refine stop_call h0 rfl (by simp only [UN,LM,zn0,zn1,zi0,zi1,zi2,zn2,zn3,zn4,reduceCtorEq]) rfl (by simp only [keepS,UN,LM,zn0,zn1,zi0,zi1,zi2,zn2,zn3,zn4,reduceCtorEq]) (hK) ?_
    simp only [UN,LM,zn0,zn1,zi0,zi1,zi2,zn2,zn3,zn4,reduceCtorEq,TAS,TBS,TCS,inX,dropS, ]
    (repeat (refine And.intro ?_ ?_;focus (clear hK';intros;simp_all;done)))
    (try (refine hK' _ _ ?_;clear hK' K'))
    repeat' (first|(with_reducible first|apply zw0|apply zw1|apply zw2|apply zw3|apply zw4|apply zw5|apply zw6|apply zw7|apply zw8|apply zw9|apply zw10|apply zw11|apply zw13|apply zw14)|((with_reducible refine zw12 ?_ ?_);rfl)|((with_reducible refine zw16 ?_ ?_ (fun K' hK'=>?_));rfl;rfl;simp only [UN,LM,zn0,zn1,zi0,zi1,zi2,zn2,zn3,zn4,reduceCtorEq,TAS,TBS,TCS,Bool.not_true,Bool.not_false,cond_true,cond_false];(repeat (refine And.intro ?_ ?_;focus (clear hK';intros;simp_all;done)));(try (refine hK' _ _ ?_;clear hK' K')))|((with_reducible refine zw15 ?_ ?_);rfl;refine ⟨_,rfl,fun h=>?_,fun h=>?_⟩ <;> try exact absurd h (by decide)))
    simp only [Kret,retL,retOne,oneV,UN,LM,zn0,zn1,zi0,zi1,zi2,zn2,zn3,zn4,reduceCtorEq,TAS,TBS,TCS]
  | true =>
    rw [if_pos rfl] at hK
    obtain ⟨e3,e4⟩:=hoth rfl
    rw [e3,e4] at hD3
    refine fn_of_swp (N:=145) Tryd.func4 rfl (by decide) rfl rfl (by simp) (fun C h0=>?_)
    simp only [argE]
    refine zw0 ?_
    (with_reducible refine zw17 ?_ (fun K' hK'=>?_)
     · rfl
     simp only [UN,LM,zn0,zn1,zi0,zi1,zi2,zn2,zn3,zn4,reduceCtorEq,TAS,TBS,TCS]
     (repeat (refine And.intro ?_ ?_;focus (clear hK';intros;simp_all;done))))
    refine hK' _ _ ?_
    clear hK' K'
    refine zw6 ?_
    refine zw0 ?_
    refine zw0 ?_
    (with_reducible refine swp_regionS (fun K' hK'=>?_))
    refine vcTo_ok 6 rfl ?_
    simp only [UN,LM,zn0,zn1,zi0,zi1,zi2,zn2,zn3,zn4,reduceCtorEq,TAS,TBS,TCS,vcTo]
    (repeat (refine And.intro ?_ ?_;focus (clear hK';intros;simp_all;done)))
    refine stop_frz [2,3] h0 (by simp only [Option.isSome_some,SV.frz,SV.frzs,Box.frz,frzE,frzS,inX,keepS,UN,LM,zn0,zn1,zi0,zi1,zi2,zn2,zn3,zn4,reduceCtorEq]) ?_
    simp only [UN,LM,zn0,zn1,zi0,zi1,zi2,zn2,zn3,zn4,reduceCtorEq,TAS,TBS,TCS,SV.frz,SV.frzs,Box.frz,frzE,frzS,inX,keepS]
    refine stop_callF rfl (by simp only [UN,LM,zn0,zn1,zi0,zi1,zi2,zn2,zn3,zn4,reduceCtorEq]) rfl rfl (hF) ?_
    simp only [UN,LM,zn0,zn1,zi0,zi1,zi2,zn2,zn3,zn4,reduceCtorEq,TAS,TBS,TCS,inX,dropS, ]
    (repeat (refine And.intro ?_ ?_;focus (clear hK';intros;simp_all;done)))
    (try (refine hK' _ _ ?_;clear hK' K'))
    repeat' (first|(with_reducible first|apply zw0|apply zw1|apply zw2|apply zw3|apply zw4|apply zw5|apply zw6|apply zw7|apply zw8|apply zw9|apply zw10|apply zw11|apply zw13|apply zw14)|((with_reducible refine zw12 ?_ ?_);rfl)|((with_reducible refine zw16 ?_ ?_ (fun K' hK'=>?_));rfl;rfl;simp only [UN,LM,zn0,zn1,zi0,zi1,zi2,zn2,zn3,zn4,reduceCtorEq,TAS,TBS,TCS,bne_self_eq_false,Bool.not_true,Bool.not_false,cond_true,cond_false];(repeat (refine And.intro ?_ ?_;focus (clear hK';intros;simp_all;done)));(try (refine hK' _ _ ?_;clear hK' K')))|((with_reducible refine zw15 ?_ ?_);rfl;refine ⟨_,rfl,fun h=>?_,fun h=>?_⟩ <;> try exact absurd h (by decide)))
    refine stop_call h0 rfl (by simp only [UN,LM,zn0,zn1,zi0,zi1,zi2,zn2,zn3,zn4,reduceCtorEq]) rfl (by simp only [keepS,UN,LM,zn0,zn1,zi0,zi1,zi2,zn2,zn3,zn4,reduceCtorEq]) (hD1) ?_
    simp only [UN,LM,zn0,zn1,zi0,zi1,zi2,zn2,zn3,zn4,reduceCtorEq,TAS,TBS,TCS,inX,dropS, ]
    (repeat (refine And.intro ?_ ?_;focus (clear hK';intros;simp_all;done)))
    (try (refine hK' _ _ ?_;clear hK' K'))
    repeat' (first|(with_reducible first|apply zw0|apply zw1|apply zw2|apply zw3|apply zw4|apply zw5|apply zw6|apply zw7|apply zw8|apply zw9|apply zw10|apply zw11|apply zw13|apply zw14)|((with_reducible refine zw12 ?_ ?_);rfl)|((with_reducible refine zw16 ?_ ?_ (fun K' hK'=>?_));rfl;rfl;simp only [UN,LM,zn0,zn1,zi0,zi1,zi2,zn2,zn3,zn4,reduceCtorEq,TAS,TBS,TCS];(repeat (refine And.intro ?_ ?_;focus (clear hK';intros;simp_all;done)));(try (refine hK' _ _ ?_;clear hK' K')))|((with_reducible refine zw15 ?_ ?_);rfl;refine ⟨_,rfl,fun h=>?_,fun h=>?_⟩ <;> try exact absurd h (by decide)))
    refine stop_call h0 rfl (by simp only [UN,LM,zn0,zn1,zi0,zi1,zi2,zn2,zn3,zn4,reduceCtorEq]) rfl (by simp only [keepS,UN,LM,zn0,zn1,zi0,zi1,zi2,zn2,zn3,zn4,reduceCtorEq]) (hD2) ?_
    simp only [UN,LM,zn0,zn1,zi0,zi1,zi2,zn2,zn3,zn4,reduceCtorEq,TAS,TBS,TCS,inX,dropS, ]
    (repeat (refine And.intro ?_ ?_;focus (clear hK';intros;simp_all;done)))
    (try (refine hK' _ _ ?_;clear hK' K'))
    repeat' (first|(with_reducible first|apply zw0|apply zw1|apply zw2|apply zw3|apply zw4|apply zw5|apply zw6|apply zw7|apply zw8|apply zw9|apply zw10|apply zw11|apply zw13|apply zw14)|((with_reducible refine zw12 ?_ ?_);rfl)|((with_reducible refine zw16 ?_ ?_ (fun K' hK'=>?_));rfl;rfl;simp only [UN,LM,zn0,zn1,zi0,zi1,zi2,zn2,zn3,zn4,reduceCtorEq,TAS,TBS,TCS,bne_self_eq_false,Bool.not_true,Bool.not_false,cond_true,cond_false];(repeat (refine And.intro ?_ ?_;focus (clear hK';intros;simp_all;done)));(try (refine hK' _ _ ?_;clear hK' K')))|((with_reducible refine zw15 ?_ ?_);rfl;refine ⟨_,rfl,fun h=>?_,fun h=>?_⟩ <;> try exact absurd h (by decide)))
    refine stop_call h0 rfl (by simp only [UN,LM,zn0,zn1,zi0,zi1,zi2,zn2,zn3,zn4,reduceCtorEq]) rfl (by simp only [keepS,UN,LM,zn0,zn1,zi0,zi1,zi2,zn2,zn3,zn4,reduceCtorEq]) (hE1) ?_
    simp only [UN,LM,zn0,zn1,zi0,zi1,zi2,zn2,zn3,zn4,reduceCtorEq,TAS,TBS,TCS,inX,dropS, ]
    (repeat (refine And.intro ?_ ?_;focus (clear hK';intros;simp_all;done)))
    (try (refine hK' _ _ ?_;clear hK' K'))
    repeat' (first|(with_reducible first|apply zw0|apply zw1|apply zw2|apply zw3|apply zw4|apply zw5|apply zw6|apply zw7|apply zw8|apply zw9|apply zw10|apply zw11|apply zw13|apply zw14)|((with_reducible refine zw12 ?_ ?_);rfl)|((with_reducible refine zw16 ?_ ?_ (fun K' hK'=>?_));rfl;rfl;simp only [UN,LM,zn0,zn1,zi0,zi1,zi2,zn2,zn3,zn4,reduceCtorEq,TAS,TBS,TCS];(repeat (refine And.intro ?_ ?_;focus (clear hK';intros;simp_all;done)));(try (refine hK' _ _ ?_;clear hK' K')))|((with_reducible refine zw15 ?_ ?_);rfl;refine ⟨_,rfl,fun h=>?_,fun h=>?_⟩ <;> try exact absurd h (by decide)))
    refine stop_call h0 rfl (by simp only [UN,LM,zn0,zn1,zi0,zi1,zi2,zn2,zn3,zn4,reduceCtorEq]) rfl (by simp only [keepS,UN,LM,zn0,zn1,zi0,zi1,zi2,zn2,zn3,zn4,reduceCtorEq]) (hE2) ?_
    simp only [UN,LM,zn0,zn1,zi0,zi1,zi2,zn2,zn3,zn4,reduceCtorEq,TAS,TBS,TCS,inX,dropS, ]
    (repeat (refine And.intro ?_ ?_;focus (clear hK';intros;simp_all;done)))
    (try (refine hK' _ _ ?_;clear hK' K'))
    repeat' (first|(with_reducible first|apply zw0|apply zw1|apply zw2|apply zw3|apply zw4|apply zw5|apply zw6|apply zw7|apply zw8|apply zw9|apply zw10|apply zw11|apply zw13|apply zw14)|((with_reducible refine zw12 ?_ ?_);rfl)|((with_reducible refine zw16 ?_ ?_ (fun K' hK'=>?_));rfl;rfl;simp only [UN,LM,zn0,zn1,zi0,zi1,zi2,zn2,zn3,zn4,reduceCtorEq,TAS,TBS,TCS];(repeat (refine And.intro ?_ ?_;focus (clear hK';intros;simp_all;done)));(try (refine hK' _ _ ?_;clear hK' K')))|((with_reducible refine zw15 ?_ ?_);rfl;refine ⟨_,rfl,fun h=>?_,fun h=>?_⟩ <;> try exact absurd h (by decide)))
    refine stop_call h0 rfl (by simp only [UN,LM,zn0,zn1,zi0,zi1,zi2,zn2,zn3,zn4,reduceCtorEq]) rfl (by simp only [keepS,UN,LM,zn0,zn1,zi0,zi1,zi2,zn2,zn3,zn4,reduceCtorEq]) (hS1) ?_
    simp only [UN,LM,zn0,zn1,zi0,zi1,zi2,zn2,zn3,zn4,reduceCtorEq,TAS,TBS,TCS,inX,dropS, ]
    (repeat (refine And.intro ?_ ?_;focus (clear hK';intros;simp_all;done)))
    (try (refine hK' _ _ ?_;clear hK' K'))
    repeat' (first|(with_reducible first|apply zw0|apply zw1|apply zw2|apply zw3|apply zw4|apply zw5|apply zw6|apply zw7|apply zw8|apply zw9|apply zw10|apply zw11|apply zw13|apply zw14)|((with_reducible refine zw12 ?_ ?_);rfl)|((with_reducible refine zw16 ?_ ?_ (fun K' hK'=>?_));rfl;rfl;simp only [UN,LM,zn0,zn1,zi0,zi1,zi2,zn2,zn3,zn4,reduceCtorEq,TAS,TBS,TCS];(repeat (refine And.intro ?_ ?_;focus (clear hK';intros;simp_all;done)));(try (refine hK' _ _ ?_;clear hK' K')))|((with_reducible refine zw15 ?_ ?_);rfl;refine ⟨_,rfl,fun h=>?_,fun h=>?_⟩ <;> try exact absurd h (by decide)))
    refine stop_call h0 rfl (by simp only [UN,LM,zn0,zn1,zi0,zi1,zi2,zn2,zn3,zn4,reduceCtorEq]) rfl (by simp only [keepS,UN,LM,zn0,zn1,zi0,zi1,zi2,zn2,zn3,zn4,reduceCtorEq]) (hS2) ?_
    simp only [UN,LM,zn0,zn1,zi0,zi1,zi2,zn2,zn3,zn4,reduceCtorEq,TAS,TBS,TCS,inX,dropS, ]
    (repeat (refine And.intro ?_ ?_;focus (clear hK';intros;simp_all;done)))
    (try (refine hK' _ _ ?_;clear hK' K'))
    refine zw6 ?_
    repeat (with_reducible refine zw0 ?_)
    (with_reducible refine swp_regionA ?_ ( [(21,bD true)]) (fun K' hK'=>?_)
     · rfl
     simp only [UN,LM,zn0,zn1,zi0,zi1,zi2,zn2,zn3,zn4,reduceCtorEq,TAS,TBS,TCS,vcA,stepA,callA,rst,lksA,Oper.looksAt,Op.operands,pureOp,Call.operands,List.filterMap_cons,List.filterMap_nil,Option.toList_none,Option.toList_some,Option.bind_some,Option.bind_none,List.getElem?_toArray,Array.toList_append,List.append_nil,D.flat,D.flats,true_or,or_true,forall_const,hSm,bb,bne_self_eq_false,hq,Bool.not_true,Bool.not_false,cond_true,cond_false ]
     (repeat (refine And.intro ?_ ?_;focus (clear hK';intros;simp_all;done)))
     (try (refine hK' _ _ ?_;clear hK' K')))
    repeat' (first|(with_reducible first|apply zw0|apply zw1|apply zw2|apply zw3|apply zw4|apply zw5|apply zw6|apply zw7|apply zw8|apply zw9|apply zw10|apply zw11|apply zw13|apply zw14)|((with_reducible refine zw12 ?_ ?_);rfl)|((with_reducible refine zw16 ?_ ?_ (fun K' hK'=>?_));rfl;rfl;simp only [UN,LM,zn0,zn1,zi0,zi1,zi2,zn2,zn3,zn4,reduceCtorEq,TAS,TBS,TCS,bb,bne_self_eq_false,hq,Bool.not_true,Bool.not_false,cond_true,cond_false];(repeat (refine And.intro ?_ ?_;focus (clear hK';intros;simp_all;done)));(try (refine hK' _ _ ?_;clear hK' K')))|((with_reducible refine zw15 ?_ ?_);rfl;refine ⟨_,rfl,fun h=>?_,fun h=>?_⟩ <;> try exact absurd h (by decide)))
    refine stop_call h0 rfl (by simp only [UN,LM,zn0,zn1,zi0,zi1,zi2,zn2,zn3,zn4,reduceCtorEq]) rfl (by simp only [keepS,UN,LM,zn0,zn1,zi0,zi1,zi2,zn2,zn3,zn4,reduceCtorEq]) (hO) ?_
    simp only [UN,LM,zn0,zn1,zi0,zi1,zi2,zn2,zn3,zn4,reduceCtorEq,TAS,TBS,TCS,inX,dropS, ]
    (repeat (refine And.intro ?_ ?_;focus (clear hK';intros;simp_all;done)))
    (try (refine hK' _ _ ?_;clear hK' K'))
    refine stop_call h0 rfl (by simp only [UN,LM,zn0,zn1,zi0,zi1,zi2,zn2,zn3,zn4,reduceCtorEq]) rfl (by simp only [keepS,UN,LM,zn0,zn1,zi0,zi1,zi2,zn2,zn3,zn4,reduceCtorEq]) (hK) ?_
    simp only [UN,LM,zn0,zn1,zi0,zi1,zi2,zn2,zn3,zn4,reduceCtorEq,TAS,TBS,TCS,inX,dropS, ]
    (repeat (refine And.intro ?_ ?_;focus (clear hK';intros;simp_all;done)))
    (try (refine hK' _ _ ?_;clear hK' K'))
    repeat' (first|(with_reducible first|apply zw0|apply zw1|apply zw2|apply zw3|apply zw4|apply zw5|apply zw6|apply zw7|apply zw8|apply zw9|apply zw10|apply zw11|apply zw13|apply zw14)|((with_reducible refine zw12 ?_ ?_);rfl)|((with_reducible refine zw16 ?_ ?_ (fun K' hK'=>?_));rfl;rfl;simp only [UN,LM,zn0,zn1,zi0,zi1,zi2,zn2,zn3,zn4,reduceCtorEq,TAS,TBS,TCS,Bool.not_true,Bool.not_false,cond_true,cond_false];(repeat (refine And.intro ?_ ?_;focus (clear hK';intros;simp_all;done)));(try (refine hK' _ _ ?_;clear hK' K')))|((with_reducible refine zw15 ?_ ?_);rfl;refine ⟨_,rfl,fun h=>?_,fun h=>?_⟩ <;> try exact absurd h (by decide)))
    refine stop_call h0 rfl (by simp only [UN,LM,zn0,zn1,zi0,zi1,zi2,zn2,zn3,zn4,reduceCtorEq]) rfl (by simp only [keepS,UN,LM,zn0,zn1,zi0,zi1,zi2,zn2,zn3,zn4,reduceCtorEq]) (hD3) ?_
    simp only [UN,LM,zn0,zn1,zi0,zi1,zi2,zn2,zn3,zn4,reduceCtorEq,TAS,TBS,TCS,inX,dropS, ]
    (repeat (refine And.intro ?_ ?_;focus (clear hK';intros;simp_all;done)))
    (try (refine hK' _ _ ?_;clear hK' K'))
    repeat' (first|(with_reducible first|apply zw0|apply zw1|apply zw2|apply zw3|apply zw4|apply zw5|apply zw6|apply zw7|apply zw8|apply zw9|apply zw10|apply zw11|apply zw13|apply zw14)|((with_reducible refine zw12 ?_ ?_);rfl)|((with_reducible refine zw16 ?_ ?_ (fun K' hK'=>?_));rfl;rfl;simp only [UN,LM,zn0,zn1,zi0,zi1,zi2,zn2,zn3,zn4,reduceCtorEq,TAS,TBS,TCS,beq_self_eq_true,Bool.not_true,Bool.not_false,cond_true,cond_false];(repeat (refine And.intro ?_ ?_;focus (clear hK';intros;simp_all;done)));(try (refine hK' _ _ ?_;clear hK' K')))|((with_reducible refine zw15 ?_ ?_);rfl;refine ⟨_,rfl,fun h=>?_,fun h=>?_⟩ <;> try exact absurd h (by decide)))
    simp only [Kret,retL,retOne,oneV,UN,LM,zn0,zn1,zi0,zi1,zi2,zn2,zn3,zn4,reduceCtorEq,TAS,TBS,TCS]
end Go.Proofs.YtgecnlcbdbaneaaDoor
