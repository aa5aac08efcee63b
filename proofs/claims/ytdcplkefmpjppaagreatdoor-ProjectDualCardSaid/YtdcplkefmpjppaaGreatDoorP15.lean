/- project.of at what one says to another one; project.Of; a symbolic walk. -/
-- TYPESA
import Derived.Test.YtdcplkefmpjppaaGreatDoorP14
set_option linter.unusedVariables false
set_option linter.unusedSimpArgs false
namespace Go.Proofs.YtdcplkefmpjppaaGreatDoor.GG
open Go.RowKit Go.Sw
open Nat renaming reduceAdd → zn2

theorem merged_ms (Γ : Gl) {a b : Lt} (oa : OkL a) (ob : OkL b) (h : a.size ≤ 60) : MgF Γ a b (ms 60 a b):=by
 have:=merged_fn Γ 60 a b oa ob h
 rwa [mo_ms 60 a b oa ob h] at this
set_option maxHeartbeats 32000000 in
set_option maxRecDepth 100000 in
theorem of_com (Γ : Gl) (r : ByteArray) (k : Int) (fr to : ByteArray) (so : Int) (ls : List ByteArray) (l : List Gt) (hk : k = 2 ∨ k = 6) (hls : ls.length ≤ 6) (hl : l.length ≤ 6) (hl1 : 0 < l.length) (hok : ∀ x ∈ l,OkG x) (hz : Gt.sizes l ≤ 60)
 (ih : ∀ x ∈ l,OfF Γ r x (ofP r x)) : OfF Γ r (.mk k fr to so noB ls l) (match ofPs r l with | some xs=>comL r k fr to so ls xs | none=>none):=by
 have hll:=Gt.ds_len l
 have k1 : (k == 1) = false:=by simpa using (by omega : k ≠ 1)
 have k9 : (k == 9) = false:=by simpa using (by omega : k ≠ 9)
 have k8 : (k == 8) = false:=by simpa using (by omega : k ≠ 8)
 obtain ⟨R,hR⟩ : ∃ R,(match ofPs r l with | some xs=>comL r k fr to so ls xs | none=>none) = R:=⟨_,rfl⟩
 rw [hR]
 have key : ∃ J : Lt,DFn Tryz.prog Γ 30 [(Gt.mk k fr to so noB ls l).d,sD r] (match R with | some x=>.tup [x.d,.v (.bool true)] | none=>.tup [Lt.zero.d,.v (.bool false)]):=by
  refine ⟨Lt.zero,?_⟩
  simp only [Gt.d]
  refine fn_of_swp (N:=141) Tryz.func30 rfl (by decide) rfl rfl (by simp) (fun C h0=>?_)
  simp only [argE]
  repeat' (first|(with_reducible apply zz1)|((with_reducible apply zz2);rfl;intro K' hK';simp only [WA,simprocAttr,k1,k9,k8,hll];(repeat (constructor;focus (clear hK';intros;simp_all;done)));(try (apply hK';clear hK' K')))|((with_reducible apply zz3);rfl;all_goals (intro h;try exact absurd h (by decide))))
  refine swp_nil 9 2 6 rfl rfl (by decide) ?_
  simp only [WA,simprocAttr]
  refine swp_loop (α := Nat × List Lt) (fun q=>[(1,.d (sD r)),(2,.ref 0 0),(4,.ref 1 0),(9,.own 2),(67,.d (.slc (Gt.ds l))),(68,.d (iD l.length)),(69,.d (iD q.1))])
   (fun q=>[(0,.cells [.d (iD k),.d (sD fr),.d (sD to),.d (iD so),.d (sD noB),.d (.slc (ls.map sD)),.d (.slc (Gt.ds l))]),(1,.cells [.d (iD 0),.d (sD noB),.d (iD 0),.d (sD noB),.nil,.nil]),(2,.row 6 (Lt.ds q.2))])
   (fun q=>q.1 ≤ l.length ∧ q.2.length = q.1 ∧ ofPs r (l.take q.1) = some q.2) (fun q=>l.length - q.1) (0,[]) ⟨Nat.zero_le _,rfl,rfl⟩ (by refine sub_of h0 ?_ ?_ ?_ <;> simp only [US,WA,simprocAttr,hll,Lt.ds]) (fun q hj=>?_)
  obtain ⟨j,xs⟩:=q
  obtain ⟨hj,hrl,hzz⟩:=hj
  simp only at hj hrl hzz
  have hb0 : (0 : Int) ≤ (j : Int):=by omega
  have hrd : (Lt.ds xs).length = j:=by rw [Lt.ds_len,hrl]
  by_cases hlt : j < l.length
  · obtain ⟨x,hx⟩ : ∃ x,l[j]? = some x:=⟨l[j],by simp [hlt]⟩
    have hgx:=Gt.ds_get l j x hx
    have hcall:=ih x (List.mem_of_getElem? hx)
    have hb1 : (j : Int) < (l.length : Int):=by omega
    have hw3 : IntKind.i64.wrap ((j : Int) + 1) = ((j + 1 : Nat) : Int):=by rw [wrap_in (by omega) (by omega)];omega
    have hst:=ofPs_take hx hzz
    have m1 : (j + 1) * 96 ≤ 140737488355328:=by omega
    have m2 : j + 1 ≤ maxLen:=by unfold maxLen;omega
    generalize ofP r x = M at *
    cases M with
    | some z =>
     have hcall : DFn Tryz.prog Γ 30 [x.d,sD r] (.tup [z.d,.v (.bool true)]):=hcall
     have hap : Lt.ds xs ++ [z.d] = Lt.ds (xs ++ [z]):=by rw [Lt.ds_app];rfl
     obtain ⟨xk,xf,xt,xs',xn,xls,xl⟩:=x
     obtain ⟨zk,zw,zs,zn,zls,zl⟩:=z
     simp only [Lt.d,Gt.d] at hgx hcall hap
     repeat' (first|(with_reducible apply zz1)|((with_reducible apply zz2);rfl;intro K' hK';simp only [WA,simprocAttr,hb1,hgx,hb0,hll,Int.toNat_natCast];(repeat (constructor;focus (clear hK';intros;simp_all;done)));(try (apply hK';clear hK' K')))|((with_reducible apply zz3);rfl;all_goals (intro h;try exact absurd h (by decide))))
     refine stop_call h0 rfl (by simp only [WA,simprocAttr]) rfl (by simp only [keepS,Option.isSome_some,WA,simprocAttr]) (hcall) ?_
     simp only [WA,simprocAttr,inX,dropS, ]
     (repeat (constructor;focus (clear hK';intros;simp_all;done)))
     (try (apply hK';clear hK' K'))
     repeat' (first|(with_reducible apply zz1)|((with_reducible apply zz2);rfl;intro K' hK';simp only [WA,simprocAttr,Bool.not_true,hrd,m1,m2,hw3];(repeat (constructor;focus (clear hK';intros;simp_all;done)));(try (apply hK';clear hK' K')))|((with_reducible apply zz3);rfl;all_goals (intro h;try exact absurd h (by decide))))
     refine ⟨(j + 1,xs ++ [.mk zk zw zs zn zls zl]),⟨(by show j + 1 ≤ l.length;omega),(by simp [hrl]),hst⟩,(by show l.length - (j + 1) < l.length - j;omega),by simp only [← hap];refine sub_of h0 ?_ ?_ ?_ <;> simp only [US,WA,simprocAttr]⟩
    | none =>
     obtain ⟨J,hcall⟩ : ∃ J : Lt,DFn Tryz.prog Γ 30 [x.d,sD r] (.tup [J.d,.v (.bool false)]):=hcall
     have hR2 : R = none:=by rw [← hR,ofPs_none hst]
     subst hR2
     obtain ⟨xk,xf,xt,xs',xn,xls,xl⟩:=x
     obtain ⟨zk,zw,zs,zn,zls,zl⟩:=J
     simp only [Lt.d,Gt.d] at hgx hcall
     simp only [Lt.zero,Lt.d,Lt.ds,List.map_nil]
     repeat' (first|(with_reducible apply zz1)|((with_reducible apply zz2);rfl;intro K' hK';simp only [WA,simprocAttr,hb1,hgx,hb0,hll,Int.toNat_natCast];(repeat (constructor;focus (clear hK';intros;simp_all;done)));(try (apply hK';clear hK' K')))|((with_reducible apply zz3);rfl;all_goals (intro h;try exact absurd h (by decide))))
     refine stop_call h0 rfl (by simp only [WA,simprocAttr]) rfl (by simp only [keepS,Option.isSome_some,WA,simprocAttr]) (hcall) ?_
     simp only [WA,simprocAttr,inX,dropS, ]
     (repeat (constructor;focus (clear hK';intros;simp_all;done)))
     (try (apply hK';clear hK' K'))
     repeat' (first|(with_reducible apply zz1)|((with_reducible apply zz2);rfl;intro K' hK';simp only [WA,simprocAttr,Bool.not_false];(repeat (constructor;focus (clear hK';intros;simp_all;done)));(try (apply hK';clear hK' K')))|((with_reducible apply zz3);rfl;all_goals (intro h;try exact absurd h (by decide))))
     simp only [Kret,retL,retOne,oneV,WA,simprocAttr]
  have hb1 : ¬ (j : Int) < (l.length : Int):=by omega
  have hxs : ofPs r l = some xs:=by rwa [List.take_of_length_le (by omega)] at hzz
  rw [hxs] at hR
  have hR : comL r k fr to so ls xs = R:=hR
  have hokx:=ofPs_ok hok hxs
  have hlx : xs.length = l.length:=by omega
  have hzx : Lt.sizes xs ≤ 60:=by
   have : ∀ (l : List Gt) (xs : List Lt),(∀ x ∈ l,OkG x) → ofPs r l = some xs → Lt.sizes xs ≤ Gt.sizes l:=by
    intro l
    induction l with
    | nil=>intro xs _ h;unfold ofPs at h;cases h;simp [Lt.sizes]
    | cons y l ih =>
     intro xs hh h
     unfold ofPs at h
     cases hx : ofP r y with
     | none=>rw [hx] at h;cases h
     | some z =>
      rw [hx] at h
      cases hl : ofPs r l with
      | none=>rw [hl] at h;cases h
      | some zs =>
       rw [hl] at h
       cases h
       have:=ih zs (fun y hy=>hh y (by simp [hy])) hl
       have:=(ofP_ok (hh y (by simp)) z hx).2
       simp only [Lt.sizes,Gt.sizes];omega
   have:=this l xs hok hxs
   omega
  clear hj hrl hzz hlt ih hok hxs hz hrd hb0
  unfold comL at hR
  have hcS:=cloneS_d Γ ls (by omega)
  have hwk : IntKind.i64.wrap (k + 1) = k + 1:=wrap_in (by omega) (by omega)
  by_cases e1 : r.toList = fr.toList ∨ r.toList = to.toList
  · rw [if_pos e1] at hR
    have g1 : (bif (r.toList == fr.toList) then true else (r.toList == to.toList)) = true:=by
     rcases e1 with e | e
     · simp [e]
     · simp [e]
    subst hR
    by_cases e2 : r.toList = to.toList
    · have g2 : (r.toList == to.toList) = true:=by simpa using e2
      simp only [if_pos e2,Lt.d]
      repeat' (first|(with_reducible apply zz1)|((with_reducible apply zz2);rfl;intro K' hK';simp only [WA,simprocAttr,hb1,g1];(repeat (constructor;focus (clear hK';intros;simp_all;done)));(try (apply hK';clear hK' K')))|((with_reducible apply zz3);rfl;all_goals (intro h;try exact absurd h (by decide))))
      (with_reducible refine swp_drawX ?_ ?_ ?_ (⟨⟨[(8,.slc (ls.map sD))],[]⟩,[],[],[],[]⟩) _ rfl (fun K' hK' gops fin hgops hfin=>?_)
       · kernel_rfl
       · rfl
       · rfl
       repeat' first
        | (refine vcX_dead rfl trivial (by simp only [WA,simprocAttr,UX,UA];rfl) (by simp only [List.nil_append,List.cons_append];rfl) (by simp only [zn2];rfl) ?_)
        | (refine vcX_step rfl rfl trivial (by simp only [WA,simprocAttr,UX,UA,hcS,List.length_map ];rfl) ?_ (by simp only [WA,simprocAttr,UX,UA];rfl) (by simp only [WA,simprocAttr,UX,UA];rfl) (by simp only [List.nil_append,List.cons_append];rfl) (by simp only [zn2];rfl) ?_;focus (first | trivial | ((repeat' apply And.intro) <;> first | trivial | assumption | (clear hK' hfin hgops;intros;simp_all;done))))
       (refine vcX_nil (by subst hfin;kernel_rfl) ?_)
       clear hfin hgops fin gops
       (try (apply hK';clear hK' K')))
      repeat' (first|(with_reducible apply zz1)|((with_reducible apply zz2);rfl;intro K' hK';simp only [WA,simprocAttr,g2];(repeat (constructor;focus (clear hK';intros;simp_all;done)));(try (apply hK';clear hK' K')))|((with_reducible apply zz3);rfl;all_goals (intro h;try exact absurd h (by decide))))
      (with_reducible refine swp_drawX ?_ ?_ ?_ (⟨⟨[],[]⟩,[],[],[],[]⟩) _ rfl (fun K' hK' gops fin hgops hfin=>?_)
       · kernel_rfl
       · rfl
       · rfl
       repeat' first
        | (refine vcX_dead rfl trivial (by simp only [WA,simprocAttr,UX,UA];rfl) (by simp only [List.nil_append,List.cons_append];rfl) (by simp only [zn2];rfl) ?_)
        | (refine vcX_step rfl rfl trivial (by simp only [WA,simprocAttr,UX,UA,hwk ];rfl) ?_ (by simp only [WA,simprocAttr,UX,UA];rfl) (by simp only [WA,simprocAttr,UX,UA];rfl) (by simp only [List.nil_append,List.cons_append];rfl) (by simp only [zn2];rfl) ?_;focus (first | trivial | ((repeat' apply And.intro) <;> first | trivial | assumption | (clear hK' hfin hgops;intros;simp_all;done))))
       (refine vcX_nil (by subst hfin;kernel_rfl) ?_)
       clear hfin hgops fin gops
       (try (apply hK';clear hK' K')))
      repeat' (first|(with_reducible apply zz1)|((with_reducible apply zz2);rfl;intro K' hK';simp only [WA,simprocAttr];(repeat (constructor;focus (clear hK';intros;simp_all;done)));(try (apply hK';clear hK' K')))|((with_reducible apply zz3);rfl;all_goals (intro h;try exact absurd h (by decide))))
      simp only [Kret,retL,retOne,oneV,WA,simprocAttr]
    · have g2 : (r.toList == to.toList) = false:=by simpa using e2
      simp only [if_neg e2,Lt.d]
      repeat' (first|(with_reducible apply zz1)|((with_reducible apply zz2);rfl;intro K' hK';simp only [WA,simprocAttr,hb1,g1];(repeat (constructor;focus (clear hK';intros;simp_all;done)));(try (apply hK';clear hK' K')))|((with_reducible apply zz3);rfl;all_goals (intro h;try exact absurd h (by decide))))
      (with_reducible refine swp_drawX ?_ ?_ ?_ (⟨⟨[(8,.slc (ls.map sD))],[]⟩,[],[],[],[]⟩) _ rfl (fun K' hK' gops fin hgops hfin=>?_)
       · kernel_rfl
       · rfl
       · rfl
       repeat' first
        | (refine vcX_dead rfl trivial (by simp only [WA,simprocAttr,UX,UA];rfl) (by simp only [List.nil_append,List.cons_append];rfl) (by simp only [zn2];rfl) ?_)
        | (refine vcX_step rfl rfl trivial (by simp only [WA,simprocAttr,UX,UA,hcS,List.length_map ];rfl) ?_ (by simp only [WA,simprocAttr,UX,UA];rfl) (by simp only [WA,simprocAttr,UX,UA];rfl) (by simp only [List.nil_append,List.cons_append];rfl) (by simp only [zn2];rfl) ?_;focus (first | trivial | ((repeat' apply And.intro) <;> first | trivial | assumption | (clear hK' hfin hgops;intros;simp_all;done))))
       (refine vcX_nil (by subst hfin;kernel_rfl) ?_)
       clear hfin hgops fin gops
       (try (apply hK';clear hK' K')))
      repeat' (first|(with_reducible apply zz1)|((with_reducible apply zz2);rfl;intro K' hK';simp only [WA,simprocAttr,g2];(repeat (constructor;focus (clear hK';intros;simp_all;done)));(try (apply hK';clear hK' K')))|((with_reducible apply zz3);rfl;all_goals (intro h;try exact absurd h (by decide))))
      simp only [Kret,retL,retOne,oneV,WA,simprocAttr]
  · rw [if_neg e1] at hR
    simp only [not_or] at e1
    have g1 : (r.toList == fr.toList) = false:=by simpa using e1.1
    have g2 : (r.toList == to.toList) = false:=by simpa using e1.2
    obtain ⟨y0,ys,rfl⟩ : ∃ y0 ys,xs = y0 :: ys:=by
     match xs,hlx with
     | [],e=>simp at e;omega
     | y0 :: ys,_=>exact ⟨y0,ys,rfl⟩
    have hR : fold1 y0 ys = R:=hR
    have hyl:=Lt.ds_len ys
    have hy0:=hokx y0 (by simp)
    have hys : ∀ y ∈ ys,OkL y:=fun y hy=>hokx y (by simp [hy])
    have hfit : ∀ d ∈ Lt.ds (y0 :: ys),d.cells.length = 6:=by
     intro d hd
     rw [Lt.ds_map] at hd
     obtain ⟨⟨_,_,_,_,_,_⟩, -,rfl⟩:=List.mem_map.1 hd
     rfl
    have hy7 : ys.length ≤ 6:=by simp only [List.length_cons] at hlx;omega
    simp only [Lt.sizes] at hzx
    refine swp_frz [2] h0 (by simp only [Option.isSome_some,UF,WA,simprocAttr]) ?_
    simp only [WA,simprocAttr,UF]
    obtain ⟨yk,yw,yso,yn,yls,yl⟩:=y0
    simp only [Lt.ds,Lt.d] at hfit ⊢
    repeat' (first|(with_reducible apply zz1)|((with_reducible apply zz2);rfl;intro K' hK';simp only [WA,simprocAttr,hb1,g1,g2,List.getD_cons_zero,List.length_cons,hyl,hfit];(repeat (constructor;focus (clear hK';intros;simp_all;done)));(try (apply hK';clear hK' K')))|((with_reducible apply zz3);rfl;all_goals (intro h;try exact absurd h (by decide))))
    refine ⟨⟨fun _=>by omega,hfit⟩,?_⟩
    refine hK' _ _ ?_
    clear hK' K'
    repeat' (first|(with_reducible apply zz1)|((with_reducible apply zz2);rfl;intro K' hK';simp only [WA,simprocAttr,hyl];(repeat (constructor;focus (clear hK';intros;simp_all;done)));(try (apply hK';clear hK' K')))|((with_reducible apply zz3);rfl;all_goals (intro h;try exact absurd h (by decide))))
    refine swp_loop (α := Nat × Lt) (fun q=>[(4,.ref 1 0),(15,.ref 2 0),(124,.d (.slc (Lt.ds ys))),(125,.d (iD ys.length)),(126,.d (iD q.1))])
     (fun q=>[(1,.cells [.d (iD 0),.d (sD noB),.d (iD 0),.d (sD noB),.nil,.nil]),(2,.cells q.2.cs)])
     (fun q=>q.1 ≤ ys.length ∧ fold1 q.2 (ys.drop q.1) = R ∧ OkL q.2 ∧ q.2.size + Lt.sizes (ys.drop q.1) ≤ 60) (fun q=>ys.length - q.1) (0,.mk yk yw yso yn yls yl) ⟨Nat.zero_le _,hR,hy0,hzx⟩ (by simp only [Lt.cs];refine sub_of h0 ?_ ?_ ?_ <;> simp only [US,WA,simprocAttr,hyl]) (fun q hj=>?_)
    obtain ⟨j,out⟩:=q
    obtain ⟨hj,hf,oo,hsz⟩:=hj
    simp only at hj hf oo hsz
    have hb0 : (0 : Int) ≤ (j : Int):=by omega
    by_cases hlt : j < ys.length
    · obtain ⟨y,hy⟩ : ∃ y,ys[j]? = some y:=⟨ys[j],by simp [hlt]⟩
      have hd : ys.drop j = y :: ys.drop (j + 1):=by
       obtain ⟨h1,h2⟩:=List.getElem?_eq_some_iff.1 hy
       rw [List.drop_eq_getElem_cons h1,h2]
      rw [hd] at hf hsz
      simp only [Lt.sizes] at hsz
      have oy:=hys y (List.mem_of_getElem? hy)
      have hgy:=Lt.ds_get ys j y hy
      have hcall:=merged_ms Γ oo oy (by omega)
      have hmo:=ms_ok 60 out y
      have hb2 : (j : Int) < (ys.length : Int):=by omega
      have hw3 : IntKind.i64.wrap ((j : Int) + 1) = ((j + 1 : Nat) : Int):=by rw [wrap_in (by omega) (by omega)];omega
      unfold fold1 at hf
      generalize ms 60 out y = M at *
      cases M with
      | some z =>
       have hcall : DFn Tryz.prog Γ 65 [out.d,y.d] (.tup [z.d,.v (.bool true)]):=hcall
       obtain ⟨oz,hzz⟩:=hmo z oo oy rfl
       have hf : fold1 z (ys.drop (j + 1)) = R:=hf
       clear hmo hd
       have hszz : z.size + Lt.sizes (ys.drop (j + 1)) ≤ 60:=by omega
       clear hsz hzz
       obtain ⟨ok,ow,os,on,ols,ol⟩:=out
       obtain ⟨wk,ww,ws,wn,wls,wl⟩:=y
       obtain ⟨zk,zw,zs,zn,zls,zl⟩:=z
       simp only [Lt.d] at hgy hcall
       simp only [Lt.cs]
       repeat' (first|(with_reducible apply zz1)|((with_reducible apply zz2);rfl;intro K' hK';simp only [WA,simprocAttr,hb2,hgy,hb0,hyl,Int.toNat_natCast];(repeat (constructor;focus (clear hK';intros;simp_all;done)));(try (apply hK';clear hK' K')))|((with_reducible apply zz3);rfl;all_goals (intro h;try exact absurd h (by decide))))
       refine stop_call h0 rfl (by simp only [WA,simprocAttr]) rfl (by simp only [keepS,Option.isSome_some,WA,simprocAttr]) (hcall) ?_
       simp only [WA,simprocAttr,inX,dropS, ]
       (repeat (constructor;focus (clear hK';intros;simp_all;done)))
       (try (apply hK';clear hK' K'))
       repeat' (first|(with_reducible apply zz1)|((with_reducible apply zz2);rfl;intro K' hK';simp only [WA,simprocAttr,Bool.not_true,hw3];(repeat (constructor;focus (clear hK';intros;simp_all;done)));(try (apply hK';clear hK' K')))|((with_reducible apply zz3);rfl;all_goals (intro h;try exact absurd h (by decide))))
       refine ⟨(j + 1,.mk zk zw zs zn zls zl),⟨(by show j + 1 ≤ ys.length;omega),hf,oz,hszz⟩,(by show ys.length - (j + 1) < ys.length - j;omega),by simp only [Lt.cs];refine sub_of h0 ?_ ?_ ?_ <;> simp only [US,WA,simprocAttr]⟩
      | none =>
       obtain ⟨J,hcall⟩ : ∃ J : Lt,DFn Tryz.prog Γ 65 [out.d,y.d] (.tup [J.d,.v (.bool false)]):=hcall
       have hR2 : R = none:=hf.symm
       subst hR2
       obtain ⟨ok,ow,os,on,ols,ol⟩:=out
       obtain ⟨wk,ww,ws,wn,wls,wl⟩:=y
       obtain ⟨zk,zw,zs,zn,zls,zl⟩:=J
       simp only [Lt.d] at hgy hcall
       simp only [Lt.cs,Lt.zero,Lt.d,Lt.ds,List.map_nil]
       repeat' (first|(with_reducible apply zz1)|((with_reducible apply zz2);rfl;intro K' hK';simp only [WA,simprocAttr,hb2,hgy,hb0,hyl,Int.toNat_natCast];(repeat (constructor;focus (clear hK';intros;simp_all;done)));(try (apply hK';clear hK' K')))|((with_reducible apply zz3);rfl;all_goals (intro h;try exact absurd h (by decide))))
       refine stop_call h0 rfl (by simp only [WA,simprocAttr]) rfl (by simp only [keepS,Option.isSome_some,WA,simprocAttr]) (hcall) ?_
       simp only [WA,simprocAttr,inX,dropS, ]
       (repeat (constructor;focus (clear hK';intros;simp_all;done)))
       (try (apply hK';clear hK' K'))
       repeat' (first|(with_reducible apply zz1)|((with_reducible apply zz2);rfl;intro K' hK';simp only [WA,simprocAttr,Bool.not_false];(repeat (constructor;focus (clear hK';intros;simp_all;done)));(try (apply hK';clear hK' K')))|((with_reducible apply zz3);rfl;all_goals (intro h;try exact absurd h (by decide))))
       simp only [Kret,retL,retOne,oneV,WA,simprocAttr]
    · have hb2 : ¬ (j : Int) < (ys.length : Int):=by omega
      rw [List.drop_of_length_le (by omega)] at hf
      unfold fold1 at hf
      subst hf
      obtain ⟨ok,ow,os,on,ols,ol⟩:=out
      simp only [Lt.cs,Lt.d]
      repeat' (first|(with_reducible apply zz1)|((with_reducible apply zz2);rfl;intro K' hK';simp only [WA,simprocAttr,hb2];(repeat (constructor;focus (clear hK';intros;simp_all;done)));(try (apply hK';clear hK' K')))|((with_reducible apply zz3);rfl;all_goals (intro h;try exact absurd h (by decide))))
      simp only [Kret,retL,retOne,oneV,WA,simprocAttr]
 obtain ⟨J,key⟩:=key
 cases R with
 | some x=>exact key
 | none=>exact ⟨_,key⟩
theorem of_all (Γ : Gl) (r : ByteArray) {g : Gt} (h : OkG g) : g.size ≤ 60 → OfF Γ r g (ofP r g):=by
 induction h with
 | nil =>
  intro _
  rw [ofP_eq,if_pos rfl]
  exact of_end Γ r
 | send fr to so x hr h1 h3 hx ih =>
  intro hz
  simp only [Gt.size,Gt.sizes] at hz
  rw [ofP_eq,if_neg (by decide),if_neg (by decide),if_neg (by decide)]
  exact of_com Γ r 2 fr to so [] [x] (.inl rfl) (by simp) (by simp) (by simp) (fun y hy=>by rw [show y = x by simpa using hy];exact hx) (by simp only [Gt.sizes];omega) fun y hy=>by rw [show y = x by simpa using hy];exact ih (by omega)
 | pick fr to ls l hr hl hn hx ih =>
  intro hz
  simp only [Gt.size] at hz
  have h6:=labels_len hl
  have h1:=labels_pos hl
  rw [ofP_eq,if_neg (by decide),if_neg (by decide),if_neg (by decide)]
  exact of_com Γ r 6 fr to 0 ls l (.inr rfl) h6 (by omega) (by omega) hx (by omega) fun y hy=>ih y hy (by have:=Gt.size_mem hy;omega)
 | bind nm x hn hx ih =>
  intro hz
  simp only [Gt.size,Gt.sizes] at hz
  rw [ofP_eq,if_neg (by decide),if_neg (by decide),if_pos rfl]
  have e:=of_bind Γ r nm x (ofP r x) (fun y hy=>(ofP_ok hx y hy).1) (ih (by omega))
  rw [show ofPF r [x] = ofP r x from rfl]
  cases hM : ofP r x with
  | some y=>rw [hM] at e;exact e
  | none=>rw [hM] at e;exact e
 | var nm hn =>
  intro _
  rw [ofP_eq,if_neg (by decide),if_pos rfl]
  exact of_var Γ r nm
def ofR (g : Gt) (r : ByteArray) : Lt × Int:=if gCheck g ≠ 0 then (Lt.zero,gCheck g) else if isRoleB r = false then (Lt.zero,1) else match ofP r g with | some x=>(x,0) | none=>(Lt.zero,8)
set_option maxHeartbeats 8000000 in
set_option maxRecDepth 100000 in
theorem Of_fn (Γ : Gl) (g : Gt) (r : ByteArray) : DFn Tryz.prog Γ 7 [g.d,sD r] (.tup [(ofR g r).1.d,iD (ofR g r).2]):=by
 have hc:=GCheck_fn Γ g
 have hi:=isRole_fn Γ r
 unfold ofR
 by_cases h1 : gCheck g = 0
 rotate_left
 · rw [if_pos h1]
   have g1 : (gCheck g != 0) = true:=by simpa using h1
   generalize gCheck g = c at *
   obtain ⟨k,fr,to,so,nm,ls,l⟩:=g
   simp only [Gt.d,Lt.d,Lt.zero,Lt.ds,List.map_nil] at hc ⊢
   refine fn_of_swp (N:=30) Tryz.func7 rfl (by decide) rfl rfl (by simp) (fun C h0=>?_)
   simp only [argE]
   repeat' (first|(with_reducible apply zz1)|((with_reducible apply zz2);rfl;intro K' hK';simp only [WA,simprocAttr];(repeat (constructor;focus (clear hK';intros;simp_all;done)));(try (apply hK';clear hK' K')))|((with_reducible apply zz3);rfl;all_goals (intro h;try exact absurd h (by decide))))
   refine stop_callF rfl (by simp only [WA,simprocAttr]) rfl rfl (hc) ?_
   simp only [WA,simprocAttr,inX,dropS, ]
   (repeat (constructor;focus (clear hK';intros;simp_all;done)))
   (try (apply hK';clear hK' K'))
   repeat' (first|(with_reducible apply zz1)|((with_reducible apply zz2);rfl;intro K' hK';simp only [WA,simprocAttr,g1];(repeat (constructor;focus (clear hK';intros;simp_all;done)));(try (apply hK';clear hK' K')))|((with_reducible apply zz3);rfl;all_goals (intro h;try exact absurd h (by decide))))
   simp only [Kret,retL,retOne,oneV,WA,simprocAttr]
 rw [if_neg (by simpa using h1)]
 have hok:=okG_check h1
 have ho:=of_all Γ r hok.1 hok.2
 have hall:=ofP_ok (r:=r) hok.1
 rw [h1] at hc
 cases hr : isRoleB r with
 | false =>
  rw [if_pos rfl]
  rw [hr] at hi
  obtain ⟨k,fr,to,so,nm,ls,l⟩:=g
  simp only [Gt.d,Lt.d,Lt.zero,Lt.ds,List.map_nil] at hc ⊢
  refine fn_of_swp (N:=30) Tryz.func7 rfl (by decide) rfl rfl (by simp) (fun C h0=>?_)
  simp only [argE]
  repeat' (first|(with_reducible apply zz1)|((with_reducible apply zz2);rfl;intro K' hK';simp only [WA,simprocAttr];(repeat (constructor;focus (clear hK';intros;simp_all;done)));(try (apply hK';clear hK' K')))|((with_reducible apply zz3);rfl;all_goals (intro h;try exact absurd h (by decide))))
  refine stop_callF rfl (by simp only [WA,simprocAttr]) rfl rfl (hc) ?_
  simp only [WA,simprocAttr,inX,dropS, ]
  (repeat (constructor;focus (clear hK';intros;simp_all;done)))
  (try (apply hK';clear hK' K'))
  repeat' (first|(with_reducible apply zz1)|((with_reducible apply zz2);rfl;intro K' hK';simp only [WA,simprocAttr,bne_self_eq_false];(repeat (constructor;focus (clear hK';intros;simp_all;done)));(try (apply hK';clear hK' K')))|((with_reducible apply zz3);rfl;all_goals (intro h;try exact absurd h (by decide))))
  refine stop_callF rfl (by simp only [WA,simprocAttr]) rfl rfl (hi) ?_
  simp only [WA,simprocAttr,inX,dropS,Bool.not_false]
  (repeat (constructor;focus (clear hK';intros;simp_all;done)))
  (try (apply hK';clear hK' K'))
  repeat' (first|(with_reducible apply zz1)|((with_reducible apply zz2);rfl;intro K' hK';simp only [WA,simprocAttr];(repeat (constructor;focus (clear hK';intros;simp_all;done)));(try (apply hK';clear hK' K')))|((with_reducible apply zz3);rfl;all_goals (intro h;try exact absurd h (by decide))))
  simp only [Kret,retL,retOne,oneV,WA,simprocAttr]
 | true =>
  rw [if_neg (by decide)]
  rw [hr] at hi
  generalize ofP r g = M at *
  cases M with
  | some x =>
   have ho : DFn Tryz.prog Γ 30 [g.d,sD r] (.tup [x.d,.v (.bool true)]):=ho
   have ht:=ltwin_all Γ x.size x (hall x rfl).1 (Nat.le_refl _)
   clear hall hok
   simp only
   obtain ⟨k,fr,to,so,nm,ls,l⟩:=g
   obtain ⟨xk,xw,xs,xn,xls,xl⟩:=x
   simp only [Gt.d,Lt.d] at hc ho ht ⊢
   refine fn_of_swp (N:=30) Tryz.func7 rfl (by decide) rfl rfl (by simp) (fun C h0=>?_)
   simp only [argE]
   repeat' (first|(with_reducible apply zz1)|((with_reducible apply zz2);rfl;intro K' hK';simp only [WA,simprocAttr];(repeat (constructor;focus (clear hK';intros;simp_all;done)));(try (apply hK';clear hK' K')))|((with_reducible apply zz3);rfl;all_goals (intro h;try exact absurd h (by decide))))
   refine stop_callF rfl (by simp only [WA,simprocAttr]) rfl rfl (hc) ?_
   simp only [WA,simprocAttr,inX,dropS, ]
   (repeat (constructor;focus (clear hK';intros;simp_all;done)))
   (try (apply hK';clear hK' K'))
   repeat' (first|(with_reducible apply zz1)|((with_reducible apply zz2);rfl;intro K' hK';simp only [WA,simprocAttr,bne_self_eq_false];(repeat (constructor;focus (clear hK';intros;simp_all;done)));(try (apply hK';clear hK' K')))|((with_reducible apply zz3);rfl;all_goals (intro h;try exact absurd h (by decide))))
   refine stop_callF rfl (by simp only [WA,simprocAttr]) rfl rfl (hi) ?_
   simp only [WA,simprocAttr,inX,dropS,Bool.not_true]
   (repeat (constructor;focus (clear hK';intros;simp_all;done)))
   (try (apply hK';clear hK' K'))
   repeat' (first|(with_reducible apply zz1)|((with_reducible apply zz2);rfl;intro K' hK';simp only [WA,simprocAttr];(repeat (constructor;focus (clear hK';intros;simp_all;done)));(try (apply hK';clear hK' K')))|((with_reducible apply zz3);rfl;all_goals (intro h;try exact absurd h (by decide))))
   refine stop_call h0 rfl (by simp only [WA,simprocAttr]) rfl (by simp only [keepS,Option.isSome_some,WA,simprocAttr]) (ho) ?_
   simp only [WA,simprocAttr,inX,dropS, ]
   (repeat (constructor;focus (clear hK';intros;simp_all;done)))
   (try (apply hK';clear hK' K'))
   repeat' (first|(with_reducible apply zz1)|((with_reducible apply zz2);rfl;intro K' hK';simp only [WA,simprocAttr,Bool.not_true];(repeat (constructor;focus (clear hK';intros;simp_all;done)));(try (apply hK';clear hK' K')))|((with_reducible apply zz3);rfl;all_goals (intro h;try exact absurd h (by decide))))
   refine stop_call h0 rfl (by simp only [WA,simprocAttr]) rfl (by simp only [keepS,Option.isSome_some,WA,simprocAttr]) (ht) ?_
   simp only [WA,simprocAttr,inX,dropS, ]
   (repeat (constructor;focus (clear hK';intros;simp_all;done)))
   (try (apply hK';clear hK' K'))
   repeat' (first|(with_reducible apply zz1)|((with_reducible apply zz2);rfl;intro K' hK';simp only [WA,simprocAttr];(repeat (constructor;focus (clear hK';intros;simp_all;done)));(try (apply hK';clear hK' K')))|((with_reducible apply zz3);rfl;all_goals (intro h;try exact absurd h (by decide))))
   simp only [Kret,retL,retOne,oneV,WA,simprocAttr]
  | none =>
   obtain ⟨J,ho⟩ : ∃ J : Lt,DFn Tryz.prog Γ 30 [g.d,sD r] (.tup [J.d,.v (.bool false)]):=ho
   clear hall hok
   simp only
   obtain ⟨k,fr,to,so,nm,ls,l⟩:=g
   obtain ⟨xk,xw,xs,xn,xls,xl⟩:=J
   simp only [Gt.d,Lt.d,Lt.zero,Lt.ds,List.map_nil] at hc ho ⊢
   refine fn_of_swp (N:=30) Tryz.func7 rfl (by decide) rfl rfl (by simp) (fun C h0=>?_)
   simp only [argE]
   repeat' (first|(with_reducible apply zz1)|((with_reducible apply zz2);rfl;intro K' hK';simp only [WA,simprocAttr];(repeat (constructor;focus (clear hK';intros;simp_all;done)));(try (apply hK';clear hK' K')))|((with_reducible apply zz3);rfl;all_goals (intro h;try exact absurd h (by decide))))
   refine stop_callF rfl (by simp only [WA,simprocAttr]) rfl rfl (hc) ?_
   simp only [WA,simprocAttr,inX,dropS, ]
   (repeat (constructor;focus (clear hK';intros;simp_all;done)))
   (try (apply hK';clear hK' K'))
   repeat' (first|(with_reducible apply zz1)|((with_reducible apply zz2);rfl;intro K' hK';simp only [WA,simprocAttr,bne_self_eq_false];(repeat (constructor;focus (clear hK';intros;simp_all;done)));(try (apply hK';clear hK' K')))|((with_reducible apply zz3);rfl;all_goals (intro h;try exact absurd h (by decide))))
   refine stop_callF rfl (by simp only [WA,simprocAttr]) rfl rfl (hi) ?_
   simp only [WA,simprocAttr,inX,dropS,Bool.not_true]
   (repeat (constructor;focus (clear hK';intros;simp_all;done)))
   (try (apply hK';clear hK' K'))
   repeat' (first|(with_reducible apply zz1)|((with_reducible apply zz2);rfl;intro K' hK';simp only [WA,simprocAttr];(repeat (constructor;focus (clear hK';intros;simp_all;done)));(try (apply hK';clear hK' K')))|((with_reducible apply zz3);rfl;all_goals (intro h;try exact absurd h (by decide))))
   refine stop_call h0 rfl (by simp only [WA,simprocAttr]) rfl (by simp only [keepS,Option.isSome_some,WA,simprocAttr]) (ho) ?_
   simp only [WA,simprocAttr,inX,dropS, ]
   (repeat (constructor;focus (clear hK';intros;simp_all;done)))
   (try (apply hK';clear hK' K'))
   repeat' (first|(with_reducible apply zz1)|((with_reducible apply zz2);rfl;intro K' hK';simp only [WA,simprocAttr,Bool.not_false];(repeat (constructor;focus (clear hK';intros;simp_all;done)));(try (apply hK';clear hK' K')))|((with_reducible apply zz3);rfl;all_goals (intro h;try exact absurd h (by decide))))
   simp only [Kret,retL,retOne,oneV,WA,simprocAttr]
end Go.Proofs.YtdcplkefmpjppaaGreatDoor.GG
