/- monitor.from; a symbolic walk. -/
import Derived.Test.YtgecnlcbdbaneaaDoorHC2
import Derived.Test.YtgecnlcbdbaneaaDoorSw41
import Derived.Test.YtgecnlcbdbaneaaDoorKV1
-- TYPESE
set_option linter.unusedVariables false
set_option linter.unusedSimpArgs false
namespace Go.Proofs.YtgecnlcbdbaneaaDoor
open Go.RowKit Go.Sw
open Go.Sw renaming swp_seq → zw0, kseq_n → zw6

theorem take_snoc {α : Type} {l : List α} {i : Nat} {x : α} (h : l[i]? = some x) : l.take (i + 1) = l.take i ++ [x]:=by rw [List.take_add_one,h];rfl
theorem gAt_get {g : List Nd} {i : Nat} {x : Nd} (h : g[i]? = some x) : (g.map Nd.d).getD i default = x.d:=by simp [List.getD,h]
set_option maxHeartbeats 16000000 in
set_option maxRecDepth 100000 in
theorem from_fn (Γ : Gl) {g : List Nd} (Hg : Gd g) {k : Int} (hk : 0 ≤ k ∧ k < (g.length : Int)) : DFn Tryd.prog Γ 94 [.slc (g.map Nd.d),iD k] (.slc ((fromP g k).map Nd.d)):=by
 obtain ⟨k0,k1⟩:=hk
 have hga:=gAt_d k0 k1
 have hgm:=Hg.ok _ (gAt_mem k0 k1)
 have hle:=Hg.le
 obtain ⟨i82,hi82,hz82,hs82, -⟩:=info72
 have hfp : fromP g k = upN (gAt g k) :: g.map upN:=rfl
 rw [hfp]
 clear hfp
 have hto:=hgm.ok.to
 have hrr:=hgm.ok.r
 generalize gAt g k = X at *
 obtain ⟨xk,xso,xls,xto⟩:=X
 simp only [Nd.d] at hga
 simp only at hto hrr
 refine fn_of_swp (N:=86) Tryd.func94 rfl (by decide) rfl rfl (by simp) (fun C h0=>?_)
 simp only [argE]
 repeat' (first|(with_reducible apply zz1)|((with_reducible apply zz2);rfl;intro K' hK';simp only [WE,simprocAttr];(repeat (constructor;focus (clear hK';intros;simp_all;done)));(try (apply hK';clear hK' K')))|((with_reducible apply zz3);rfl;all_goals (intro h;try exact absurd h (by decide))))
 -- TRACE
 (with_reducible refine swp_drawL ?_ ?_ ?_ (⟨⟨[],[]⟩,[],[],[],[]⟩) _ rfl 16 [16,17] ([true,true,true,true,true,true,true,true,true,true,true,true,true,true,true,true,false,false]).toArray (by decide) ?_ (by decide) (by decide) ?_ (fun K' hK' gops fin hgops hfin=>?_)
  · kernel_rfl
  · rfl
  · rfl
  · kernel_rfl
  · kernel_rfl
  repeat' first
   | (refine vcX_dead rfl trivial (by simp only [WE,simprocAttr,UX,UA];rfl) (by simp only [List.nil_append,List.cons_append];rfl) (by simp only [Nat.reduceAdd];rfl) ?_)
   | (refine vcX_step rfl rfl trivial (by simp only [WE,simprocAttr,UX,UA,hga,k0,k1,List.length_map];rfl) ?_ (by simp only [WE,simprocAttr,UX,UA];rfl) (by simp only [WE,simprocAttr,UX,UA];rfl) (by simp only [List.nil_append,List.cons_append];rfl) (by simp only [Nat.reduceAdd];rfl) ?_;focus (first | trivial | ((repeat' apply And.intro) <;> first | trivial | assumption | (clear hK' hfin hgops;intros;simp_all;done))))
  (refine vcX_nil (by subst hfin;kernel_rfl) ?_)
  subst hgops
  clear hfin fin)
 refine any_all (rs:=[16]) (by kernel_rfl) (by simp) (fun i hi=>?_)
 simp only [List.mem_cons,List.not_mem_nil,or_false] at hi
 obtain rfl:=hi
 refine ⟨_,rfl,rfl,?_⟩
 refine aop_bsl1 (cs:=[.d (iD xk),.d (iD xso),.d (.slc (xls.map sD)),.nil]) rfl rfl un26 hi82 hz82 hs82 (by simp) rfl ?_ rfl ?_
 · simp only [WE,simprocAttr]
 simp only [WE,simprocAttr]
 refine any_all (rs:=[17]) (by kernel_rfl) (by simp) (fun i hi=>?_)
 simp only [List.mem_cons,List.not_mem_nil,or_false] at hi
 obtain rfl:=hi
 refine ⟨_,rfl,rfl,?_⟩
 refine aop_step rfl rfl (by simp only [WE,simprocAttr];rfl) ?_ ?_
 · (repeat (refine And.intro ?_ ?_)) <;> first | trivial | (simp_all;done)
 simp only [WE,simprocAttr]
 refine any_done (by kernel_rfl) ?_
 refine hK' _ _ ?_
 clear hK' K'
 repeat' (first|(with_reducible apply zz1)|((with_reducible apply zz2);rfl;intro K' hK';simp only [WE,simprocAttr,hga,k0,k1,List.length_map];(repeat (constructor;focus (clear hK';intros;simp_all;done)));(try (apply hK';clear hK' K')))|((with_reducible apply zz3);rfl;all_goals (intro h;try exact absurd h (by decide))))
 -- TRACE
 refine swp_nilB 0 3 1 1 rfl rfl rfl (by decide) ?_
 simp only [WE,simprocAttr]
 refine swp_loop (α := Nat) (fun j=>[(0,.d (.slc (g.map Nd.d))),(5,.sref 0 1),(34,.d (.slc (xto.map iD))),(35,.d (iD xto.length)),(36,.d (iD j))])
  (fun j=>[(0,.cells [.d (iD xk),.d (iD xso),.d (.slc (xls.map sD)),.own 1]),(1,.row 1 (((xto.take j).map (· + 1)).map iD))])
  (fun j=>j ≤ xto.length) (fun j=>xto.length - j) 0 (Nat.zero_le _) (by refine sub_of h0 ?_ ?_ ?_ <;> simp only [US,WE,simprocAttr,List.map_nil,List.length_map]) (fun j hj=>?_)
 have hj : j ≤ xto.length:=hj
 have hj0 : (0 : Int) ≤ (j : Int):=by omega
 by_cases hjl : j < xto.length
 · obtain ⟨y,hy⟩ : ∃ y,xto[j]? = some y:=⟨xto[j],by simp [hjl]⟩
   have hyg : (xto.map iD).getD j default = iD y:=by simp [List.getD,hy]
   have hyr:=hrr y (List.mem_of_getElem? hy)
   have hj1 : (j : Int) < (xto.length : Int):=by omega
   have hw : IntKind.i64.wrap ((j : Int) + 1) = ((j + 1 : Nat) : Int):=by rw [wrap_in (by omega) (by omega)];omega
   have hw2 : IntKind.i64.wrap (y + 1) = y + 1:=by rw [wrap_in (by omega) (by omega)]
   have hm : ((xto.take j).map (· + 1)).map iD ++ [iD (y + 1)] = ((xto.take (j + 1)).map (· + 1)).map iD:=by rw [take_snoc hy];simp
   have hlt : (((xto.take j).map (· + 1)).map iD).length = j:=by simp;omega
   have hn1 : (j + 1) * 8 ≤ 140737488355328:=by omega
   have hn2 : j + 1 ≤ maxLen:=by unfold maxLen;omega
   refine zw0 ?_
   (with_reducible refine swp_region ?_ (fun K' hK'=>?_)
    · rfl
    simp only [WE,simprocAttr,hj1]
    (repeat (constructor;focus (clear hK';intros;simp_all;done))))
   refine hK' _ _ ?_
   clear hK' K'
   refine zw6 ?_
   refine zw0 ?_
   refine swp_cond ?_ ?_
   · rfl
   refine ⟨_,rfl,fun h=>?_,fun h=>absurd h (by decide)⟩
   clear h
   refine swp_skip ?_
   refine zw6 ?_
   refine zw0 ?_
   refine swp_block ?_
   refine zw0 ?_
   (with_reducible refine swp_region ?_ (fun K' hK'=>?_)
    · rfl
    simp only [WE,simprocAttr,hyg,hj0,hj1,Int.toNat_natCast,List.length_map]
    (repeat (constructor;focus (clear hK';intros;simp_all;done))))
   refine hK' _ _ ?_
   clear hK' K'
   refine zw6 ?_
   -- TRACE
   (with_reducible refine swp_regionS (fun K' hK'=>?_))
   refine vcTo_ok 2 rfl ?_
   simp only [WE,simprocAttr,vcTo]
   (repeat (constructor;focus (clear hK';intros;simp_all;done)))
   refine stop_idx0 rfl el26 rfl (by decide) ?_
   refine vcTo_ok 6 rfl ?_
   simp only [WE,simprocAttr,vcTo,  hw2,hm,hn1,hn2,hlt]
   (repeat (constructor;focus (clear hK';intros;simp_all;done)))
   refine stop_idx0 rfl el26 rfl (by decide) ?_
   refine vcOps_ok rfl ?_
   simp only [WE,simprocAttr]
   (repeat (constructor;focus (clear hK';intros;simp_all;done)))
   (try (apply hK';clear hK' K'))
   repeat' (first|(with_reducible apply zz1)|((with_reducible apply zz2);rfl;intro K' hK';simp only [WE,simprocAttr,hw];(repeat (constructor;focus (clear hK';intros;simp_all;done)));(try (apply hK';clear hK' K')))|((with_reducible apply zz3);rfl;all_goals (intro h;try exact absurd h (by decide))))
   refine ⟨j + 1,(by show j + 1 ≤ xto.length;omega),(by show xto.length - (j + 1) < xto.length - j;omega),by refine sub_of h0 ?_ ?_ ?_ <;> simp only [US,WE,simprocAttr]⟩
 have hj1 : ¬ (j : Int) < (xto.length : Int):=by omega
 have hje : j = xto.length:=by omega
 subst hje
 rw [List.take_length]
 repeat' (first|(with_reducible apply zz1)|((with_reducible apply zz2);rfl;intro K' hK';simp only [WE,simprocAttr,hj1,List.length_map];(repeat (constructor;focus (clear hK';intros;simp_all;done)));(try (apply hK';clear hK' K')))|((with_reducible apply zz3);rfl;all_goals (intro h;try exact absurd h (by decide))))
 -- TRACE
 refine swp_frz [1] h0 (by simp only [Option.isSome_some,UF,WE,simprocAttr]) ?_
 simp only [WE,simprocAttr,UF]
 refine swp_rowS 0 5 (ds:=[iD xk,iD xso,.slc (xls.map sD),.slc ((xto.map (· + 1)).map iD)]) (k:=4) rfl rfl rfl (by decide) ?_
 simp only [WE,simprocAttr]
 have hup : (D.agg [iD xk,iD xso,.slc (xls.map sD),.slc ((xto.map (· + 1)).map iD)]) = (upN ⟨xk,xso,xls,xto⟩).d:=rfl
 generalize upN ⟨xk,xso,xls,xto⟩ = U at *
 refine swp_loop (α := Nat) (fun j=>[(5,.own 0),(52,.d (.slc (g.map Nd.d))),(53,.d (iD g.length)),(54,.d (iD j))])
  (fun j=>[(0,.row 4 (U.d :: ((g.take j).map upN).map Nd.d))])
  (fun j=>j ≤ g.length) (fun j=>g.length - j) 0 (Nat.zero_le _) (by refine sub_of h0 ?_ ?_ ?_ <;> simp only [US,WE,simprocAttr,hup,List.map_nil,List.length_map,List.map_cons]) (fun j hj=>?_)
 have hj : j ≤ g.length:=hj
 have hj0 : (0 : Int) ≤ (j : Int):=by omega
 by_cases hjl : j < g.length
 rotate_left
 · have hj1 : ¬ (j : Int) < (g.length : Int):=by omega
   have hje : j = g.length:=by omega
   subst hje
   rw [List.take_length]
   repeat' (first|(with_reducible first|apply zw0|refine swp_block ?_|refine swp_skip ?_|refine swp_exit ?_|refine swp_label ?_|apply zw6|refine kseq_x ?_|refine kseq_r ?_|refine kblk_n ?_|refine kblk_r ?_|refine kblk_xs ?_|refine kloop_x ?_|refine kloop_r ?_)|((with_reducible refine kblk_xn ?_ ?_);rfl)|((with_reducible refine swp_regionP ?_ ?_ (fun K' hK'=>?_));rfl;rfl;simp only [WE,simprocAttr,hj1];(repeat (constructor;focus (clear hK';intros;simp_all;done)));(try (apply hK';clear hK' K')))|((with_reducible refine swp_cond ?_ ?_);rfl;refine ⟨_,rfl,fun h=>?_,fun h=>?_⟩ <;> try exact absurd h (by decide)))
   refine swp_frz [0] h0 (by simp only [Option.isSome_some,UF,WE,simprocAttr]) ?_
   simp only [WE,simprocAttr,UF]
   repeat' (first|(with_reducible apply zz1)|((with_reducible apply zz2);rfl;intro K' hK';simp only [WE,simprocAttr];(repeat (constructor;focus (clear hK';intros;simp_all;done)));(try (apply hK';clear hK' K')))|((with_reducible apply zz3);rfl;all_goals (intro h;try exact absurd h (by decide))))
   simp only [Kret,retL,retOne,oneV,WE,simprocAttr]
 obtain ⟨y,hy⟩ : ∃ y,g[j]? = some y:=⟨g[j],by simp [hjl]⟩
 have hyg:=gAt_get hy
 have hyo:=(Hg.ok y (List.mem_of_getElem? hy)).ok
 have hj1 : (j : Int) < (g.length : Int):=by omega
 have hw : IntKind.i64.wrap ((j : Int) + 1) = ((j + 1 : Nat) : Int):=by rw [wrap_in (by omega) (by omega)];omega
 have hm : ((g.take j).map upN).map Nd.d ++ [(upN y).d] = ((g.take (j + 1)).map upN).map Nd.d:=by rw [take_snoc hy];simp
 have hlt : (((g.take j).map upN).map Nd.d).length = j:=by simp;omega
 have hn1 : (j + 1 + 1) * 64 ≤ 140737488355328:=by omega
 have hn2 : j + 1 + 1 ≤ maxLen:=by unfold maxLen;omega
 have hyt:=hyo.to
 have hyr:=hyo.r
 obtain ⟨yk,yso,yls,yto⟩:=y
 simp only [Nd.d,upN] at hyg hm hyt hyr
 repeat' (first|(with_reducible apply zz1)|((with_reducible apply zz2);rfl;intro K' hK';simp only [WE,simprocAttr,hj1,hyg,hj0,Int.toNat_natCast,List.length_map];(repeat (constructor;focus (clear hK';intros;simp_all;done)));(try (apply hK';clear hK' K')))|((with_reducible apply zz3);rfl;all_goals (intro h;try exact absurd h (by decide))))
 -- TRACE
 refine swp_nilB 2 3 3 1 rfl rfl rfl (by decide) ?_
 simp only [WE,simprocAttr]
 refine swp_loop (α := Nat) (fun q=>[(5,.own 0),(10,.ref 2 0),(52,.d (.slc (g.map Nd.d))),(53,.d (iD g.length)),(54,.d (iD j)),(66,.d (.slc (yto.map iD))),(67,.d (iD yto.length)),(68,.d (iD q))])
  (fun q=>[(0,.row 4 (U.d :: ((g.take j).map upN).map Nd.d)),(2,.cells [.d (iD yk),.d (iD yso),.d (.slc (yls.map sD)),.own 3]),(3,.row 1 (((yto.take q).map (· + 1)).map iD))])
  (fun q=>q ≤ yto.length) (fun q=>yto.length - q) 0 (Nat.zero_le _) (by refine sub_of h0 ?_ ?_ ?_ <;> simp only [US,WE,simprocAttr,List.map_nil,List.length_map]) (fun q hq=>?_)
 have hq : q ≤ yto.length:=hq
 have hq0 : (0 : Int) ≤ (q : Int):=by omega
 by_cases hql : q < yto.length
 · obtain ⟨t,ht⟩ : ∃ t,yto[q]? = some t:=⟨yto[q],by simp [hql]⟩
   have htg : (yto.map iD).getD q default = iD t:=by simp [List.getD,ht]
   have htr:=hyr t (List.mem_of_getElem? ht)
   have hq1 : (q : Int) < (yto.length : Int):=by omega
   have hwq : IntKind.i64.wrap ((q : Int) + 1) = ((q + 1 : Nat) : Int):=by rw [wrap_in (by omega) (by omega)];omega
   have hw2 : IntKind.i64.wrap (t + 1) = t + 1:=by rw [wrap_in (by omega) (by omega)]
   have hm3 : ((yto.take q).map (· + 1)).map iD ++ [iD (t + 1)] = ((yto.take (q + 1)).map (· + 1)).map iD:=by rw [take_snoc ht];simp
   have hlt3 : (((yto.take q).map (· + 1)).map iD).length = q:=by simp;omega
   have hn3 : (q + 1) * 8 ≤ 140737488355328:=by omega
   have hn4 : q + 1 ≤ maxLen:=by unfold maxLen;omega
   repeat' (first|(with_reducible apply zz1)|((with_reducible apply zz2);rfl;intro K' hK';simp only [WE,simprocAttr,hq1,htg,hq0,Int.toNat_natCast,List.length_map,hw2,hm3,hlt3,hn3,hn4,hwq];(repeat (constructor;focus (clear hK';intros;simp_all;done)));(try (apply hK';clear hK' K')))|((with_reducible apply zz3);rfl;all_goals (intro h;try exact absurd h (by decide))))
   refine ⟨q + 1,(by show q + 1 ≤ yto.length;omega),(by show yto.length - (q + 1) < yto.length - q;omega),by refine sub_of h0 ?_ ?_ ?_ <;> simp only [US,WE,simprocAttr]⟩
 have hq1 : ¬ (q : Int) < (yto.length : Int):=by omega
 have hqe : q = yto.length:=by omega
 subst hqe
 rw [List.take_length]
 refine swp_frz [3] h0 (by simp only [Option.isSome_some,UF,WE,simprocAttr]) ?_
 simp only [WE,simprocAttr,UF]
 repeat' (first|(with_reducible apply zz1)|((with_reducible apply zz2);rfl;intro K' hK';simp only [WE,simprocAttr,hq1,hm,hlt,hn1,hn2,hw];(repeat (constructor;focus (clear hK';intros;simp_all;done)));(try (apply hK';clear hK' K')))|((with_reducible apply zz3);rfl;all_goals (intro h;try exact absurd h (by decide))))
 refine ⟨j + 1,(by show j + 1 ≤ g.length;omega),(by show g.length - (j + 1) < g.length - j;omega),by refine sub_of h0 ?_ ?_ ?_ <;> simp only [US,WE,simprocAttr]⟩
end Go.Proofs.YtgecnlcbdbaneaaDoor
/- monitor's New, Next, carries; a symbolic walk. -/
-- TYPESE
namespace Go.Proofs.YtgecnlcbdbaneaaDoor
open Go.RowKit Go.Sw

def monC (g : List Nd) (at' vd dn : Int) : List SV:=[.d (.slc (g.map Nd.d)),.d (iD at'),.d (iD vd),.d (iD dn)]
set_option maxHeartbeats 8000000 in
set_option maxRecDepth 100000 in
theorem new_ok (Γ : Gl) {x : Tp} (hx : tCheck x = 0) : SFn Tryd.prog Γ 28 [.d x.d] [] (.tup [.ref 1 0,.d (iD 0)]) [(1,.cells (monC (ofP x) 0 0 0))]:=by
 have ho:=of_fn Γ x
 unfold OfFn at ho
 rw [hx] at ho
 unfold monC
 generalize (ofP x).map Nd.d = A at *
 obtain ⟨k,so,nm,ls,l⟩:=x
 simp only [Tp.d] at ho ⊢
 refine sfn_of_swp (N:=17) Tryd.func28 rfl (by decide) rfl rfl (by simp) (fun C h0=>?_)
 simp only [argS]
 repeat' (first|(with_reducible apply zz1)|((with_reducible apply zz2);rfl;intro K' hK';simp only [WE,simprocAttr];(repeat (constructor;focus (clear hK';intros;simp_all;done)));(try (apply hK';clear hK' K')))|((with_reducible apply zz3);rfl;all_goals (intro h;try exact absurd h (by decide))))
 refine stop_call h0 rfl (by simp only [WE,simprocAttr]) rfl (by simp only [keepS,Option.isSome_some,WE,simprocAttr]) (ho) ?_
 simp only [WE,simprocAttr,inX,dropS, ]
 (repeat (constructor;focus (clear hK';intros;simp_all;done)))
 (try (apply hK';clear hK' K'))
 repeat' (first|(with_reducible apply zz1)|((with_reducible apply zz2);rfl;intro K' hK';simp only [WE,simprocAttr,bne_self_eq_false];(repeat (constructor;focus (clear hK';intros;simp_all;done)));(try (apply hK';clear hK' K')))|((with_reducible apply zz3);rfl;all_goals (intro h;try exact absurd h (by decide))))
 -- TRACE
 simp only [KretS,retL,retOne,oneV,US,WE,simprocAttr,h0]
end Go.Proofs.YtgecnlcbdbaneaaDoor
