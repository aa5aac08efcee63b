/- dual.Graph of a graph that is right; a symbolic walk. -/
-- TYPESA
import Derived.Test.YtdcplkefmpjppaaGreatDoorHQ4
import Derived.Test.YtdcplkefmpjppaaGreatDoorHQ5
import Derived.Test.YtdcplkefmpjppaaGreatDoorShelfJ
set_option linter.unusedVariables false
set_option linter.unusedSimpArgs false
namespace Go.Proofs.YtdcplkefmpjppaaGreatDoor
open Go.RowKit Go.Sw
open Nat renaming reduceAdd → zn2
open Go.Sw renaming kseq_n → zw6

def PowT (Γ : Gl) : Prop := ∀ w, Γ.G w → Lib.TabIs Tryz.prog w "internal/strconv.uint64pow10" .u64 Lib.pow10Tab
theorem itoa_any (Γ : Gl) (hΓ : PowT Γ) (n : Int) (h0 : 0 ≤ n) (h1 : n < 1000) : DFn Tryz.prog Γ 89 [iD n] (sD (numS n)) :=
 dfn_of (by kernel_rfl) rfl rfl fun w h=>by
  have:=Tryz.strconv_Itoa n (by omega) (by omega) w (hΓ w h)
  have e : (⟨(Lib.itoa n).toArray⟩ : ByteArray) = numS n:=by
   unfold numS packS Lib.itoa
   rw [if_neg (by omega)]
  rw [e] at this
  exact this.mono fun e w' ⟨he,k,os,hw⟩=>⟨he,by
   subst hw
   exact ⟨rfl,rfl,rfl,by simp [Go.Sort.grow],fun b hb=>by simp only [Go.Sort.grow];exact Array.getElem?_append_left (by simpa using hb)⟩⟩
theorem grow2 {g : List Nd} (hg : ∀ n ∈ g,NdG g.length n) (cl : List Int) (hl : cl.length = g.length) : (allK (keysF cl 0 g)).length ≤ (allK (keysF (nxtK (keysF cl 0 g)) 0 g)).length:=by
 have l1:=keysF_len cl g 0
 have l2:=keysF_len (nxtK (keysF cl 0 g)) g 0
 refine (cnt_lists (by rw [l1,l2]) fun i j hi hj e=>?_).1
 rw [l1] at hi hj
 rw [keysF_get _ g 0 i g[i] (List.getElem?_eq_getElem hi),keysF_get _ g 0 j g[j] (List.getElem?_eq_getElem hj),Nat.zero_add,Nat.zero_add] at e
 have hk:=key_inj (fun c hc=>(nxtK_range _ c hc).1) (hg _ (List.getElem_mem hi)) (hg _ (List.getElem_mem hj)) (Option.some.inj e)
 have cls : ∀ i (hi : i < (keysF cl 0 g).length),(nxtK (keysF cl 0 g)).getD i 0 = plK ((keysF cl 0 g)[i]) (allK (keysF cl 0 g)):=fun i hi=>by
  unfold nxtK
  rw [List.getD_eq_getElem?_getD,List.getElem?_map,List.getElem?_eq_getElem hi];rfl
 have hc:=hk.2.2.2.1
 rw [cls i (by omega),cls j (by omega)] at hc
 rw [List.getElem?_eq_getElem (by omega),List.getElem?_eq_getElem (by omega),plK_inj (List.getElem_mem _) (List.getElem_mem _) hc]
theorem leastL_fn (Γ : Gl) (hΓ : PowT Γ) (g : List Nd) (h0 : 0 < g.length) (h2 : g.length ≤ 200) (hg : ∀ n ∈ g,NdG g.length n) : DFn Tryz.prog Γ 71 [.slc (g.map Nd.d)] (.slc ((leastP g).map Nd.d)):=by
 have hp:=parted_fn Γ 250 (by decide) (by decide) (fun n h0 h1=>itoa_any Γ hΓ n h0 (by omega)) g (by omega) (fun n hn=>(hg n hn).ok) (fun cl hl hc=>grow2 hg cl hl)
 exact least_fn Γ g (by omega) h0 (fun n hn=>(hg n hn).ok) (parted_len _) hp
set_option maxHeartbeats 4000000 in
set_option maxRecDepth 100000 in
theorem least2_fn (Γ : Gl) (hΓ : PowT Γ) (g : List Nd) (h0g : 0 < g.length) (h2 : g.length ≤ 200) (hg : ∀ n ∈ g,NdG g.length n) (hs : ShG g) : DFn Tryz.prog Γ 121 [.slc (g.map Nd.d)] (.tup [.slc ((leastP g).map Nd.d),iD 0]):=by
 have hc:=gcheck_fn Γ g h0g h2 hg hs
 have hl:=leastL_fn Γ hΓ g h0g h2 hg
 generalize g.map Nd.d = A at *
 generalize (leastP g).map Nd.d = B at *
 refine fn_of_swp (N:=12) Tryz.func121 rfl (by decide) rfl rfl (by simp) (fun C h0=>?_)
 simp only [argE]
 repeat' (first|(with_reducible apply zz1)|((with_reducible apply zz2);rfl;intro K' hK';simp only [WA,simprocAttr];(repeat (constructor;focus (clear hK';intros;simp_all;done)));(try (apply hK';clear hK' K')))|((with_reducible apply zz3);rfl;all_goals (intro h;try exact absurd h (by decide))))
 refine stop_callF rfl (by simp only [WA,simprocAttr]) rfl rfl (hc) ?_
 simp only [WA,simprocAttr,inX,dropS,bne_self_eq_false]
 (repeat (constructor;focus (clear hK';intros;simp_all;done)))
 (try (apply hK';clear hK' K'))
 repeat' (first|(with_reducible apply zz1)|((with_reducible apply zz2);rfl;intro K' hK';simp only [WA,simprocAttr,bne_self_eq_false];(repeat (constructor;focus (clear hK';intros;simp_all;done)));(try (apply hK';clear hK' K')))|((with_reducible apply zz3);rfl;all_goals (intro h;try exact absurd h (by decide))))
 refine stop_call h0 rfl (by simp only [WA,simprocAttr]) rfl (by simp only [keepS,Option.isSome_some,WA,simprocAttr]) (hl) ?_
 simp only [WA,simprocAttr,inX,dropS, ]
 (repeat (constructor;focus (clear hK';intros;simp_all;done)))
 (try (apply hK';clear hK' K'))
 repeat' (first|(with_reducible apply zz1)|((with_reducible apply zz2);rfl;intro K' hK';simp only [WA,simprocAttr];(repeat (constructor;focus (clear hK';intros;simp_all;done)));(try (apply hK';clear hK' K')))|((with_reducible apply zz3);rfl;all_goals (intro h;try exact absurd h (by decide))))
 simp only [Kret,retL,retOne,oneV,WA,simprocAttr]
set_option maxHeartbeats 16000000 in
set_option maxRecDepth 100000 in
theorem dual_fn (Γ : Gl) (hΓ : PowT Γ) (g : List Nd) (h0g : 0 < g.length) (h2 : g.length ≤ 100) (hg : ∀ n ∈ g,NdG g.length n) (hs : ShG g) : DFn Tryz.prog Γ 72 [.slc (g.map Nd.d)] (.tup [.slc ((leastP (dualRaw g)).map Nd.d),iD 0]):=by
 have hc:=gcheck_fn Γ g h0g (by omega) hg hs
 have hdg:=dual_good hg hs
 have hdl:=dualRaw_len g
 have hl:=least2_fn Γ hΓ (dualRaw g) (by omega) (by omega) hdg.1 hdg.2
 have w1 : IntKind.i64.wrap (2 * (g.length : Int)) = 2 * (g.length : Int):=wrap_in (by omega) (by omega)
 have g1 : ¬ (200 : Int) < 2 * (g.length : Int):=by omega
 refine fn_of_swp (N:=103) Tryz.func72 rfl (by decide) rfl rfl (by simp) (fun C h0=>?_)
 simp only [argE]
 repeat' (first|(with_reducible apply zz1)|((with_reducible apply zz2);rfl;intro K' hK';simp only [WA,simprocAttr];(repeat (constructor;focus (clear hK';intros;simp_all;done)));(try (apply hK';clear hK' K')))|((with_reducible apply zz3);rfl;all_goals (intro h;try exact absurd h (by decide))))
 refine stop_callF rfl (by simp only [WA,simprocAttr]) rfl rfl (hc) ?_
 simp only [WA,simprocAttr,inX,dropS,bne_self_eq_false]
 (repeat (constructor;focus (clear hK';intros;simp_all;done)))
 (try (apply hK';clear hK' K'))
 repeat' (first|(with_reducible apply zz1)|((with_reducible apply zz2);rfl;intro K' hK';simp only [WA,simprocAttr,List.length_map,bne_self_eq_false,w1,g1];(repeat (constructor;focus (clear hK';intros;simp_all;done)));(try (apply hK';clear hK' K')))|((with_reducible apply zz3);rfl;all_goals (intro h;try exact absurd h (by decide))))
 refine swp_nil 6 0 4 rfl rfl (by decide) ?_
 simp only [WA,simprocAttr]
 repeat' (first|(with_reducible apply zz1)|((with_reducible apply zz2);rfl;intro K' hK';simp only [WA,simprocAttr,List.length_map];(repeat (constructor;focus (clear hK';intros;simp_all;done)));(try (apply hK';clear hK' K')))|((with_reducible apply zz3);rfl;all_goals (intro h;try exact absurd h (by decide))))
 refine swp_loop (α := Nat) (fun i=>[(0,.d (.slc (g.map Nd.d))),(5,.d (iD g.length)),(6,.own 0),(26,.d (.slc (g.map Nd.d))),(27,.d (iD g.length)),(28,.d (iD i))]) (fun i=>[(0,.row 4 (((g.take i).map (dNd g.length)).map Nd.d))])
  (fun i=>i ≤ g.length) (fun i=>g.length - i) 0 (Nat.zero_le _) (by refine sub_of h0 ?_ ?_ ?_ <;> simp only [US,WA,simprocAttr,List.take_zero,List.map_nil]) (fun i hi=>?_)
 have hi : i ≤ g.length:=hi
 have hb0 : (0 : Int) ≤ (i : Int):=by omega
 by_cases hlt : i < g.length
 · obtain ⟨x,hx⟩ : ∃ x,g[i]? = some x:=⟨g[i],by simp [hlt]⟩
   have hxm:=List.mem_of_getElem? hx
   have hget : (g.map Nd.d).getD i default = x.d:=by simp [List.getD,hx]
   have hok:=(hg x hxm).ok
   have hsx:=hs x hxm
   have hls:=hok.ls
   have hto:=hok.to
   have hr:=hok.r
   have hb1 : (i : Int) < (g.length : Int):=by omega
   have hw3 : IntKind.i64.wrap ((i : Int) + 1) = ((i + 1 : Nat) : Int):=by rw [wrap_in (by omega) (by omega)];omega
   have htk : (((g.take i).map (dNd g.length)).map Nd.d) ++ [(dNd g.length x).d] = ((g.take (i + 1)).map (dNd g.length)).map Nd.d:=by
    rw [List.take_add_one,hx];simp
   have htl : (((g.take i).map (dNd g.length)).map Nd.d).length = i:=by simp;omega
   obtain ⟨R,hR⟩ : ∃ R,((g.take i).map (dNd g.length)).map Nd.d = R:=⟨_,rfl⟩
   rw [hR] at htk htl ⊢
   have hn3 : (i + 1) * 64 ≤ 140737488355328:=by omega
   have hn4 : i + 1 ≤ maxLen:=by unfold maxLen;omega
   obtain ⟨k,so,ls,to⟩:=x
   simp only [Nd.d] at hget
   simp only at hls hto hr hsx
   have hkd:=kind_fn Γ k
   have hcS:=cloneS_d Γ ls (by omega)
   have hcI:=cloneI_fn Γ to (by omega)
   by_cases h45 : k = 4 ∨ k = 5
   · have htl2 : to.length = 2:=by
      rcases hsx with ⟨e, -⟩ | ⟨e, -⟩ | ⟨-, -, -,e⟩ | ⟨e, -⟩ <;> omega
     obtain ⟨a,b,rfl⟩:=len2 htl2
     have hra:=hr a (by simp)
     have wa : IntKind.i64.wrap (a + (g.length : Int)) = a + (g.length : Int):=wrap_in (by omega) (by omega)
     simp only [dNd,if_pos h45,addHd,Nd.d,List.map_cons,List.map_nil] at htk
     simp only [List.map_cons,List.map_nil] at hget hcI
     repeat' (first|(with_reducible apply zz1)|((with_reducible apply zz2);rfl;intro K' hK';simp only [WA,simprocAttr,Int.toNat_natCast,hget,List.length_map,hb0,hb1];(repeat (constructor;focus (clear hK';intros;simp_all;done)));(try (apply hK';clear hK' K')))|((with_reducible apply zz3);rfl;all_goals (intro h;try exact absurd h (by decide))))
     (with_reducible refine swp_drawX ?_ ?_ ?_ (⟨⟨[(2,iD (dKind k)),(7,.slc (ls.map sD))],[(10,(1,[iD a,iD b]))]⟩,[],[],[],[]⟩) _ rfl (fun K' hK' gops fin hgops hfin=>?_)
      · kernel_rfl
      · rfl
      · rfl
      repeat' first
       | (refine vcX_dead rfl trivial (by simp only [WA,simprocAttr,UX,UA];rfl) (by simp only [List.nil_append,List.cons_append];rfl) (by simp only [zn2];rfl) ?_)
       | (refine vcX_step rfl rfl trivial (by simp only [WA,simprocAttr,UX,UA,hkd,hcS,hcI,List.length_map ];rfl) ?_ (by simp only [WA,simprocAttr,UX,UA];rfl) (by simp only [WA,simprocAttr,UX,UA];rfl) (by simp only [List.nil_append,List.cons_append];rfl) (by simp only [zn2];rfl) ?_;focus (first | trivial | ((repeat' apply And.intro) <;> first | trivial | assumption | (clear hK' hfin hgops;intros;simp_all;done))))
      (refine vcX_nil (by subst hfin;kernel_rfl) ?_)
      clear hfin hgops fin gops
      (try (apply hK';clear hK' K')))
     have hset : [iD a,iD b].set 0 (iD (a + (g.length : Int))) = [iD (a + (g.length : Int)),iD b]:=rfl
     rcases h45 with rfl | rfl
     all_goals
      repeat' (first|(with_reducible apply zz1)|((with_reducible apply zz2);rfl;intro K' hK';simp only [WA,simprocAttr,Int.reduceBEq,Bool.not_true,Bool.not_false,cond_true,cond_false,List.getD_cons_zero,wa];(repeat (constructor;focus (clear hK';intros;simp_all;done)));(try (apply hK';clear hK' K')))|((with_reducible apply zz3);rfl;all_goals (intro h;try exact absurd h (by decide))))
      refine stop_sE rfl (by simp only [WA,simprocAttr,storeE,setE,dAll,Option.map_some,hset,List.getD_cons_zero];rfl) ?_ ?_
      · first | trivial | ((repeat' apply And.intro) <;> first | trivial | assumption | (clear hK';intros;simp_all;done))
      simp only [WA,simprocAttr,hset,List.getD_cons_zero]
      (repeat (constructor;focus (clear hK';intros;simp_all;done)))
      (try (apply hK';clear hK' K'))
      refine zw6 ?_
      refine swp_frz [12] h0 (by simp only [Option.isSome_some,UF,WA,simprocAttr]) ?_
      simp only [WA,simprocAttr,UF]
      repeat' (first|(with_reducible apply zz1)|((with_reducible apply zz2);rfl;intro K' hK';simp only [WA,simprocAttr,htl,hn3,hn4,htk,hw3];(repeat (constructor;focus (clear hK';intros;simp_all;done)));(try (apply hK';clear hK' K')))|((with_reducible apply zz3);rfl;all_goals (intro h;try exact absurd h (by decide))))
      refine ⟨i + 1,(by show i + 1 ≤ g.length;omega),(by show g.length - (i + 1) < g.length - i;omega),by refine sub_of h0 ?_ ?_ ?_ <;> simp only [US,WA,simprocAttr]⟩
   · simp only [dNd,if_neg h45,Nd.d] at htk
     repeat' (first|(with_reducible apply zz1)|((with_reducible apply zz2);rfl;intro K' hK';simp only [WA,simprocAttr,Int.toNat_natCast,hget,List.length_map,hb0,hb1];(repeat (constructor;focus (clear hK';intros;simp_all;done)));(try (apply hK';clear hK' K')))|((with_reducible apply zz3);rfl;all_goals (intro h;try exact absurd h (by decide))))
     (with_reducible refine swp_drawX ?_ ?_ ?_ (⟨⟨[(2,iD (dKind k)),(7,.slc (ls.map sD))],[(10,(1,to.map iD))]⟩,[],[],[],[]⟩) _ rfl (fun K' hK' gops fin hgops hfin=>?_)
      · kernel_rfl
      · rfl
      · rfl
      repeat' first
       | (refine vcX_dead rfl trivial (by simp only [WA,simprocAttr,UX,UA];rfl) (by simp only [List.nil_append,List.cons_append];rfl) (by simp only [zn2];rfl) ?_)
       | (refine vcX_step rfl rfl trivial (by simp only [WA,simprocAttr,UX,UA,hkd,hcS,hcI,List.length_map ];rfl) ?_ (by simp only [WA,simprocAttr,UX,UA];rfl) (by simp only [WA,simprocAttr,UX,UA];rfl) (by simp only [List.nil_append,List.cons_append];rfl) (by simp only [zn2];rfl) ?_;focus (first | trivial | ((repeat' apply And.intro) <;> first | trivial | assumption | (clear hK' hfin hgops;intros;simp_all;done))))
      (refine vcX_nil (by subst hfin;kernel_rfl) ?_)
      clear hfin hgops fin gops
      (try (apply hK';clear hK' K')))
     have g4 : (k == 4) = false:=by rw [beq_eq_false_iff_ne];omega
     have g5 : (k == 5) = false:=by rw [beq_eq_false_iff_ne];omega
     refine zw6 ?_
     refine swp_seq ?_
     refine swp_frz [12] h0 (by simp only [Option.isSome_some,UF,WA,simprocAttr]) ?_
     simp only [WA,simprocAttr,UF]
     repeat' (first|(with_reducible apply zz1)|((with_reducible apply zz2);rfl;intro K' hK';simp only [WA,simprocAttr,g4,g5,htl,hn3,hn4,htk,hw3,Bool.not_true,Bool.not_false,cond_true,cond_false];(repeat (constructor;focus (clear hK';intros;simp_all;done)));(try (apply hK';clear hK' K')))|((with_reducible apply zz3);rfl;all_goals (intro h;try exact absurd h (by decide))))
     refine ⟨i + 1,(by show i + 1 ≤ g.length;omega),(by show g.length - (i + 1) < g.length - i;omega),by refine sub_of h0 ?_ ?_ ?_ <;> simp only [US,WA,simprocAttr]⟩
 · have hb1 : ¬ (i : Int) < (g.length : Int):=by omega
   rw [List.take_of_length_le (by omega)]
   repeat' (first|(with_reducible apply zz1)|((with_reducible apply zz2);rfl;intro K' hK';simp only [WA,simprocAttr,hb1,List.length_map];(repeat (constructor;focus (clear hK';intros;simp_all;done)));(try (apply hK';clear hK' K')))|((with_reducible apply zz3);rfl;all_goals (intro h;try exact absurd h (by decide))))
   refine swp_loop (α := Nat) (fun i=>[(0,.d (.slc (g.map Nd.d))),(5,.d (iD g.length)),(6,.own 0),(64,.d (.slc (g.map Nd.d))),(65,.d (iD g.length)),(66,.d (iD i))]) (fun i=>[(0,.row 4 ((g.map (dNd g.length) ++ (g.take i).map (sNd g.length)).map Nd.d))])
    (fun i=>i ≤ g.length) (fun i=>g.length - i) 0 (Nat.zero_le _) (by refine sub_of h0 ?_ ?_ ?_ <;> simp only [US,WA,simprocAttr,List.take_zero,List.map_nil]) (fun i hi=>?_)
   clear hb1 hb0 hlt
   have hi : i ≤ g.length:=hi
   have hb0 : (0 : Int) ≤ (i : Int):=by omega
   by_cases hlt : i < g.length
   · obtain ⟨x,hx⟩ : ∃ x,g[i]? = some x:=⟨g[i],by simp [hlt]⟩
     have hxm:=List.mem_of_getElem? hx
     have hget : (g.map Nd.d).getD i default = x.d:=by simp [List.getD,hx]
     have hok:=(hg x hxm).ok
     have hls:=hok.ls
     have hto:=hok.to
     have hr:=hok.r
     have hb1 : (i : Int) < (g.length : Int):=by omega
     have hw3 : IntKind.i64.wrap ((i : Int) + 1) = ((i + 1 : Nat) : Int):=by rw [wrap_in (by omega) (by omega)];omega
     have htk : ((g.map (dNd g.length) ++ (g.take i).map (sNd g.length)).map Nd.d) ++ [(sNd g.length x).d] = (g.map (dNd g.length) ++ (g.take (i + 1)).map (sNd g.length)).map Nd.d:=by
      rw [List.take_add_one,hx];simp
     have htl : ((g.map (dNd g.length) ++ (g.take i).map (sNd g.length)).map Nd.d).length = g.length + i:=by simp;omega
     obtain ⟨R,hR⟩ : ∃ R,(g.map (dNd g.length) ++ (g.take i).map (sNd g.length)).map Nd.d = R:=⟨_,rfl⟩
     rw [hR] at htk htl ⊢
     have hn3 : (g.length + i + 1) * 64 ≤ 140737488355328:=by omega
     have hn4 : g.length + i + 1 ≤ maxLen:=by unfold maxLen;omega
     obtain ⟨k,so,ls,to⟩:=x
     simp only [Nd.d,sNd] at hget htk
     simp only at hls hto hr
     have hcS:=cloneS_d Γ ls (by omega)
     repeat' (first|(with_reducible apply zz1)|((with_reducible apply zz2);rfl;intro K' hK';simp only [WA,simprocAttr,Int.toNat_natCast,hget,List.length_map,hb0,hb1];(repeat (constructor;focus (clear hK';intros;simp_all;done)));(try (apply hK';clear hK' K')))|((with_reducible apply zz3);rfl;all_goals (intro h;try exact absurd h (by decide))))
     (with_reducible refine swp_drawX ?_ ?_ ?_ (⟨⟨[(6,.slc (ls.map sD))],[]⟩,[],[],[],[]⟩) _ rfl (fun K' hK' gops fin hgops hfin=>?_)
      · kernel_rfl
      · rfl
      · rfl
      repeat' first
       | (refine vcX_dead rfl trivial (by simp only [WA,simprocAttr,UX,UA];rfl) (by simp only [List.nil_append,List.cons_append];rfl) (by simp only [zn2];rfl) ?_)
       | (refine vcX_step rfl rfl trivial (by simp only [WA,simprocAttr,UX,UA,hcS,List.length_map ];rfl) ?_ (by simp only [WA,simprocAttr,UX,UA];rfl) (by simp only [WA,simprocAttr,UX,UA];rfl) (by simp only [List.nil_append,List.cons_append];rfl) (by simp only [zn2];rfl) ?_;focus (first | trivial | ((repeat' apply And.intro) <;> first | trivial | assumption | (clear hK' hfin hgops;intros;simp_all;done))))
      (refine vcX_nil (by subst hfin;kernel_rfl) ?_)
      clear hfin hgops fin gops
      (try (apply hK';clear hK' K')))
     refine zw6 ?_
     refine swp_nilB 10 3 11 1 rfl rfl rfl (by decide) ?_
     simp only [WA,simprocAttr]
     repeat' (first|(with_reducible apply zz1)|((with_reducible apply zz2);rfl;intro K' hK';simp only [WA,simprocAttr,List.length_map];(repeat (constructor;focus (clear hK';intros;simp_all;done)));(try (apply hK';clear hK' K')))|((with_reducible apply zz3);rfl;all_goals (intro h;try exact absurd h (by decide))))
     refine swp_loop (α := Nat) (fun j=>[(0,.d (.slc (g.map Nd.d))),(5,.d (iD g.length)),(6,.own 0),(64,.d (.slc (g.map Nd.d))),(65,.d (iD g.length)),(66,.d (iD i)),(12,.ref 10 0),(79,.d (.slc (to.map iD))),(80,.d (iD to.length)),(81,.d (iD j))])
      (fun j=>[(10,.cells [.d (iD k),.d (iD so),.d (.slc (ls.map sD)),.own 11]),(11,.row 1 (((to.take j).map fun t=>t + (g.length : Int)).map iD)),(0,.row 4 R)])
      (fun j=>j ≤ to.length) (fun j=>to.length - j) 0 (Nat.zero_le _) (by refine sub_of h0 ?_ ?_ ?_ <;> simp only [US,WA,simprocAttr,List.take_zero,List.map_nil]) (fun j hj=>?_)
     have hj : j ≤ to.length:=hj
     have hj0 : (0 : Int) ≤ (j : Int):=by omega
     by_cases hjl : j < to.length
     · obtain ⟨y,hy⟩ : ∃ y,to[j]? = some y:=⟨to[j],by simp [hjl]⟩
       have hyr:=hr y (List.mem_of_getElem? hy)
       have hyg : (to.map iD).getD j default = iD y:=by simp [List.getD,hy]
       have hj1 : (j : Int) < (to.length : Int):=by omega
       have wy : IntKind.i64.wrap (y + (g.length : Int)) = y + (g.length : Int):=wrap_in (by omega) (by omega)
       have hw2 : IntKind.i64.wrap ((j : Int) + 1) = ((j + 1 : Nat) : Int):=by rw [wrap_in (by omega) (by omega)];omega
       have hm : ((to.take j).map fun t=>t + (g.length : Int)).map iD ++ [iD (y + (g.length : Int))] = ((to.take (j + 1)).map fun t=>t + (g.length : Int)).map iD:=by
        rw [List.take_add_one,hy];simp
       have hml : (((to.take j).map fun t=>t + (g.length : Int)).map iD).length = j:=by simp;omega
       obtain ⟨A,hA⟩ : ∃ A,((to.take j).map fun t=>t + (g.length : Int)).map iD = A:=⟨_,rfl⟩
       rw [hA] at hm hml ⊢
       have hn5 : (j + 1) * 8 ≤ 140737488355328:=by omega
       have hn6 : j + 1 ≤ maxLen:=by unfold maxLen;omega
       repeat' (first|(with_reducible apply zz1)|((with_reducible apply zz2);rfl;intro K' hK';simp only [WA,simprocAttr,Int.toNat_natCast,hyg,hj0,hj1,wy,hml,hn5,hn6,hm,hw2,List.length_map];(repeat (constructor;focus (clear hK';intros;simp_all;done)));(try (apply hK';clear hK' K')))|((with_reducible apply zz3);rfl;all_goals (intro h;try exact absurd h (by decide))))
       refine ⟨j + 1,(by show j + 1 ≤ to.length;omega),(by show to.length - (j + 1) < to.length - j;omega),by refine sub_of h0 ?_ ?_ ?_ <;> simp only [US,WA,simprocAttr]⟩
     · have hj1 : ¬ (j : Int) < (to.length : Int):=by omega
       rw [List.take_of_length_le (by omega)]
       refine swp_frz [11] h0 (by simp only [Option.isSome_some,UF,WA,simprocAttr]) ?_
       simp only [WA,simprocAttr,UF]
       repeat' (first|(with_reducible apply zz1)|((with_reducible apply zz2);rfl;intro K' hK';simp only [WA,simprocAttr,hj1,htl,hn3,hn4,htk,hw3];(repeat (constructor;focus (clear hK';intros;simp_all;done)));(try (apply hK';clear hK' K')))|((with_reducible apply zz3);rfl;all_goals (intro h;try exact absurd h (by decide))))
       refine ⟨i + 1,(by show i + 1 ≤ g.length;omega),(by show g.length - (i + 1) < g.length - i;omega),by refine sub_of h0 ?_ ?_ ?_ <;> simp only [US,WA,simprocAttr]⟩
   · have hb1 : ¬ (i : Int) < (g.length : Int):=by omega
     rw [List.take_of_length_le (by omega)]
     have he : g.map (dNd g.length) ++ g.map (sNd g.length) = dualRaw g:=rfl
     rw [he]
     refine swp_frz [0] h0 (by simp only [Option.isSome_some,UF,WA,simprocAttr]) ?_
     simp only [WA,simprocAttr,UF]
     repeat' (first|(with_reducible apply zz1)|((with_reducible apply zz2);rfl;intro K' hK';simp only [WA,simprocAttr,hb1];(repeat (constructor;focus (clear hK';intros;simp_all;done)));(try (apply hK';clear hK' K')))|((with_reducible apply zz3);rfl;all_goals (intro h;try exact absurd h (by decide))))
     refine stop_call h0 rfl (by simp only [WA,simprocAttr]) rfl (by simp only [keepS,Option.isSome_some,WA,simprocAttr]) (hl) ?_
     simp only [WA,simprocAttr,inX,dropS, ]
     (repeat (constructor;focus (clear hK';intros;simp_all;done)))
     (try (apply hK';clear hK' K'))
     repeat' (first|(with_reducible apply zz1)|((with_reducible apply zz2);rfl;intro K' hK';simp only [WA,simprocAttr];(repeat (constructor;focus (clear hK';intros;simp_all;done)));(try (apply hK';clear hK' K')))|((with_reducible apply zz3);rfl;all_goals (intro h;try exact absurd h (by decide))))
     simp only [Kret,retL,retOne,oneV,WA,simprocAttr]
end Go.Proofs.YtdcplkefmpjppaaGreatDoor
