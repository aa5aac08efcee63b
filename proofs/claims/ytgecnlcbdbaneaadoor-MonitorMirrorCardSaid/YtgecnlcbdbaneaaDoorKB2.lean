/- graph.back; a symbolic walk. -/
-- TYPESC
import Derived.Test.YtgecnlcbdbaneaaDoorKN
import Derived.Test.YtgecnlcbdbaneaaDoorHQ4
set_option linter.unusedVariables false
set_option linter.unusedSimpArgs false
namespace Go.Proofs.YtgecnlcbdbaneaaDoor
open Go.RowKit Go.Sw
open Nat renaming reduceAdd → zn2

def cI (m : Int) : SV:=.d (iD m)
def bkA (r : (Tp × Bool) × BkSt) : D:=.tup [r.1.1.d,bD r.1.2]
def BackS (Γ : Gl) (g : List Nd) (f : Nat) : Prop := ∀ (k : Int) (st : BkSt),0 ≤ k ∧ k < (g.length : Int) → Ms g.length st.on → 0 ≤ st.left → st.left < (f : Int) → st.left ≤ 60 →
 SFn Tryd.prog Γ 51 [.d (.slc (g.map Nd.d)),.d (iD k),.sref 0 g.length,.ref 1 0] [(0,.cells (st.on.map cI)),(1,.cells [.d (iD st.left)])] (.d (bkA (backP g f k st))) [(0,.cells ((backP g f k st).2.on.map cI)),(1,.cells [.d (iD (backP g f k st).2.left)])]
theorem cells_drop {on : List Int} {k : Nat} (h : k < on.length) : (on.map cI).drop k = .d (iD (on.getD k 0)) :: (on.map cI).drop (k + 1):=by
 rw [List.drop_eq_getElem_cons (by simpa using h)]
 simp [cI,List.getD,h]
theorem cells_set {on : List Int} {k : Nat} (h : k < on.length) (v : Int) : (on.map cI).take k ++ [SV.d (iD v)] ++ (on.map cI).drop (k + 1) = (on.set k v).map cI:=by
 apply List.ext_getElem
 · simp;omega
 · intro i h1 h2
   simp only [List.length_map,List.length_set] at h2
   by_cases hi : i < k
   · rw [List.getElem_append_left (by simp;omega),List.getElem_append_left (by simp;omega)]
     simp [List.getElem_set_ne (by omega : k ≠ i)]
   · by_cases hk : i = k
     · subst hk
       rw [List.getElem_append_left (by simp;omega),List.getElem_append_right (by simp;omega)]
       simp [cI]
     · rw [List.getElem_append_right (by simp;omega)]
       simp only [List.length_append,List.length_take,List.length_map,List.length_cons,List.length_nil,List.getElem_drop,List.getElem_map]
       rw [List.getElem_set_ne (by omega)]
       congr 2
       omega
theorem fzs_cI (s s' : St) : ∀ on : List Int,FZs s s' (on.map cI) (on.map cI)
 | []=>trivial
 | m :: on=>⟨⟨rfl,trivial⟩,fzs_cI s s' on⟩
theorem hins_cI (s : St) : ∀ on : List Int,hins s (on.map cI)
 | []=>trivial
 | m :: on=>⟨trivial,hins_cI s on⟩
theorem jks_cI (X : Nat → Bool) : ∀ on : List Int,SV.jks X (on.map cI) = on.map cI
 | []=>rfl
 | m :: on=>by rw [List.map_cons,SV.jks,jks_cI X on];rfl
theorem frzs_cI (s : St) (X : List Nat) : ∀ on : List Int,SV.frzs s X (on.map cI) = on.map cI
 | []=>rfl
 | m :: on=>by rw [List.map_cons,SV.frzs,frzs_cI s X on];rfl
def appO (acc : List Tp) (q : Option (List Tp) × BkSt) : Option (List Tp) × BkSt:=(match q.1 with | none=>none | some xs=>some (acc ++ xs),q.2)
theorem app_nil (q : Option (List Tp) × BkSt) : appO [] q = q:=by
 obtain ⟨a,b⟩:=q
 cases a <;> rfl
theorem app_bad {acc : List Tp} {b : Int → BkSt → (Tp × Bool) × BkSt} {n : Int} {l : List Int} {st : BkSt} (h : (b n st).1.2 = false) : appO acc (backsP b (n :: l) st) = (none,(b n st).2):=by
 unfold appO backsP
 rw [if_neg (by simp [h])]
theorem app_good {acc : List Tp} {b : Int → BkSt → (Tp × Bool) × BkSt} {n : Int} {l : List Int} {st : BkSt} (h : (b n st).1.2 = true) : appO acc (backsP b (n :: l) st) = appO (acc ++ [(b n st).1.1]) (backsP b l (b n st).2):=by
 unfold appO
 conv=>lhs;unfold backsP
 rw [if_pos h]
 cases (backsP b l (b n st).2).1 <;> simp
set_option maxHeartbeats 16000000 in
set_option maxRecDepth 100000 in
theorem back_step (Γ : Gl) {g : List Nd} (hg : ∀ n ∈ g,NdG g.length n) (hs : ShG g) (h200 : g.length ≤ 200) (f : Nat) (ih : BackS Γ g f) : BackS Γ g (f + 1):=by
 intro k st hk hm hl0 hlf hl60
 have hbk:=back_ok hg hs h200 f
 have hbl:=fun n st=>back_left (g:=g) f n st
 obtain ⟨R,hR⟩ : ∃ R,backP g (f + 1) k st = R:=⟨_,rfl⟩
 rw [hR]
 have hkn : k.toNat < st.on.length:=by rw [hm.ln];omega
 have hdr:=cells_drop hkn
 have hset:=fun v=>cells_set hkn v
 have hlen : (st.on.map cI).length = g.length:=by simp [hm.ln]
 have hkm : k.toNat + 1 ≤ g.length:=by omega
 have hk0:=hk.1
 have hk1:=hk.2
 have hgm:=gAt_mem hk0 hk1
 have hga:=gAt_d hk0 hk1
 have hX:=(hg _ hgm)
 have hto : ∀ t ∈ (gAt g k).to,0 ≤ t ∧ t < (g.length : Int):=hX.ok.r
 have hto6:=hX.ok.to
 have hls6:=hX.ok.ls
 have hnm:=name_fn Γ k hk0 (by omega)
 have hm1 : Ms g.length (st.on.set k.toNat 1):=⟨by simp [hm.ln],fun j=>by
  rw [getD_set hkn];split
  · exact .inr (.inl rfl)
  · exact hm.m j⟩
 obtain ⟨on,left⟩:=st
 simp only at hl0 hlf hl60 hkn hdr hset hlen hm1 hm
 have hw : IntKind.i64.wrap (left - 1) = left - 1:=wrap_in (by omega) (by omega)
 unfold backP at hR
 simp only at hR
 refine sfn_of_swp (N:=107) Tryd.func51 rfl (by decide) rfl rfl (by simp) (fun C h0=>?_)
 simp only [argS]
 by_cases c1 : left - 1 < 0
 · rw [if_pos c1] at hR
   subst hR
   simp only [bkA,tp0,Tp.d,Tp.ds,List.map_nil]
   repeat' (first|(with_reducible apply zz1)|((with_reducible refine zz4 ?_ ?_);rfl)|((with_reducible refine zz2 ?_ (fun K' hK'=>?_));rfl;simp only [WC,simprocAttr,hw,c1];(repeat (refine And.intro ?_ ?_;focus (clear hK';intros;simp_all;done)));(try (refine hK' _ _ ?_;clear hK' K')))|((with_reducible refine zz3 ?_ ?_);rfl;refine ⟨_,rfl,fun h=>?_,fun h=>?_⟩ <;> try exact absurd h (by decide)))
   simp only [KretS,retL,retOne,oneV,US,WC,simprocAttr,h0]
   exact fzs_cI _ _ _
 rw [if_neg c1] at hR
 by_cases c2 : 0 < on.getD k.toNat 0
 · rw [if_pos c2] at hR
   subst hR
   have hs2:=hset 2
   simp only [bkA,Tp.d,Tp.ds,List.map_nil]
   repeat' (first|(with_reducible apply zz1)|((with_reducible refine zz4 ?_ ?_);rfl)|((with_reducible refine zz2 ?_ (fun K' hK'=>?_));rfl;simp only [WC,simprocAttr,hw,c1,c2,hdr,hs2,hlen,hkm,hk0,hk1];(repeat (refine And.intro ?_ ?_;focus (clear hK';intros;simp_all;done)));(try (refine hK' _ _ ?_;clear hK' K')))|((with_reducible refine zz3 ?_ ?_);rfl;refine ⟨_,rfl,fun h=>?_,fun h=>?_⟩ <;> try exact absurd h (by decide)))
   refine stop_callF rfl (by simp only [WC,simprocAttr]) rfl rfl (hnm) ?_
   simp only [WC,simprocAttr,inX,dropS, ]
   (repeat (refine And.intro ?_ ?_;focus (clear hK';intros;simp_all;done)))
   (try (refine hK' _ _ ?_;clear hK' K'))
   repeat' (first|(with_reducible apply zz1)|((with_reducible refine zz4 ?_ ?_);rfl)|((with_reducible refine zz2 ?_ (fun K' hK'=>?_));rfl;simp only [WC,simprocAttr];(repeat (refine And.intro ?_ ?_;focus (clear hK';intros;simp_all;done)));(try (refine hK' _ _ ?_;clear hK' K')))|((with_reducible refine zz3 ?_ ?_);rfl;refine ⟨_,rfl,fun h=>?_,fun h=>?_⟩ <;> try exact absurd h (by decide)))
   simp only [KretS,retL,retOne,oneV,US,WC,simprocAttr,h0]
   exact fzs_cI _ _ _
 rw [if_neg c2] at hR
 have hs1:=hset 1
 have hcS:=cloneS_d Γ (gAt g k).ls (by omega)
 generalize hXe : gAt g k = X at *
 obtain ⟨xk,xso,xls,xto⟩:=X
 simp only [Nd.d] at hga hcS hto hto6 hls6 hR
 have hxl : (xto.map iD).length = xto.length:=by simp
 repeat' (first|(with_reducible apply zz1)|((with_reducible refine zz4 ?_ ?_);rfl)|((with_reducible refine zz2 ?_ (fun K' hK'=>?_));rfl;simp only [WC,simprocAttr,hw,c1,c2,hdr,hs1,hlen,hkm,hk0,hk1];(repeat (refine And.intro ?_ ?_;focus (clear hK';intros;simp_all;done)));(try (refine hK' _ _ ?_;clear hK' K')))|((with_reducible refine zz3 ?_ ?_);rfl;refine ⟨_,rfl,fun h=>?_,fun h=>?_⟩ <;> try exact absurd h (by decide)))
 (with_reducible refine swp_drawX ?_ ?_ ?_ (⟨⟨[(15,.slc (xls.map sD))],[]⟩,[],[],[],[]⟩) _ rfl (fun K' hK' gops fin hgops hfin=>?_)
  · kernel_rfl
  · rfl
  · rfl
  repeat' first
   | (refine vcX_dead rfl trivial (by simp only [WC,simprocAttr,UX,UA];rfl) (by simp only [List.nil_append,List.cons_append];rfl) (by simp only [zn2];rfl) ?_)
   | (refine vcX_step rfl rfl trivial (by simp only [WC,simprocAttr,UX,UA,hcS,hga,hk0,hk1,List.length_map ];rfl) ?_ (by simp only [WC,simprocAttr,UX,UA];rfl) (by simp only [WC,simprocAttr,UX,UA];rfl) (by simp only [List.nil_append,List.cons_append];rfl) (by simp only [zn2];rfl) ?_;focus (first | trivial | ((repeat' (refine And.intro ?_ ?_)) <;> first | trivial | assumption | (clear hK' hfin hgops;intros;simp_all;done))))
  (refine vcX_nil (by subst hfin;kernel_rfl) ?_)
  clear hfin hgops fin gops
  (try (refine hK' _ _ ?_;clear hK' K')))
 repeat' (first|(with_reducible apply zz1)|((with_reducible refine zz4 ?_ ?_);rfl)|((with_reducible refine zz2 ?_ (fun K' hK'=>?_));rfl;simp only [WC,simprocAttr,hga,hk0,hk1,List.length_map];(repeat (refine And.intro ?_ ?_;focus (clear hK';intros;simp_all;done)));(try (refine hK' _ _ ?_;clear hK' K')))|((with_reducible refine zz3 ?_ ?_);rfl;refine ⟨_,rfl,fun h=>?_,fun h=>?_⟩ <;> try exact absurd h (by decide)))
 refine swp_nilB 20 4 21 5 rfl rfl rfl (by decide) ?_
 simp only [WC,simprocAttr]
 generalize hst1 : (⟨on.set k.toNat 1,left - 1⟩ : BkSt) = st1 at *
 have hs1on : on.set k.toNat 1 = st1.on:=by rw [← hst1]
 have hs1l : left - 1 = st1.left:=by rw [← hst1]
 rw [hs1on] at hm1 ⊢
 refine swp_loop (α := Nat × List Tp × BkSt) (fun q=>[(0,.d (.slc (g.map Nd.d))),(1,.d (iD k)),(2,.sref 0 g.length),(3,.ref 1 0),(8,.ref 2 0),(9,.d (bD false)),(10,.ref 20 0),(60,.d (.slc (xto.map iD))),(61,.d (iD xto.length)),(62,.d (iD q.1))])
  (fun q=>[(0,.cells (q.2.2.on.map cI)),(1,.cells [.d (iD q.2.2.left)]),(2,.cells [.d (iD 0),.d (iD 0),.d (sD noB),.nil,.nil]),(20,.cells [.d (iD xk),.d (iD xso),.d (sD noB),.d (.slc (xls.map sD)),.own 21]),(21,.row 5 (Tp.ds q.2.1))])
  (fun q=>q.1 ≤ xto.length ∧ q.2.1.length = q.1 ∧ Ms g.length q.2.2.on ∧ 0 ≤ q.2.2.left ∧ q.2.2.left ≤ st1.left ∧ backN g k (appO q.2.1 (backsP (backP g f) (xto.drop q.1) q.2.2)) = R) (fun q=>xto.length - q.1) (0,[],st1) ⟨Nat.zero_le _,rfl,hm1,(by show 0 ≤ st1.left;omega),Int.le_refl _,?_⟩ (by simp only [hs1l,Tp.ds];refine sub_of h0 ?_ ?_ ?_ <;> simp only [US,WC,simprocAttr,fzs_cI]) (fun q hq=>?_)
 · show backN g k (appO [] (backsP (backP g f) xto st1)) = R
   rw [← hR,app_nil]
 obtain ⟨j,acc,st⟩:=q
 obtain ⟨hj,hacc,hms,hq0,hq1,hq⟩:=hq
 simp only at hj hacc hms hq0 hq1 hq
 have hal : (Tp.ds acc).length = j:=by rw [Tp.ds_len];exact hacc
 have hj0 : (0 : Int) ≤ (j : Int):=by omega
 clear hR
 by_cases hjl : j < xto.length
 · obtain ⟨n,hn⟩ : ∃ n,xto[j]? = some n:=⟨xto[j],by simp [hjl]⟩
   have hnr:=hto n (List.mem_of_getElem? hn)
   have hcall:=ih n st hnr hms hq0 (by omega) (by omega)
   have hgd : (xto.map iD).getD j default = iD n:=by simp [List.getD,hn]
   have hj1 : (j : Int) < (xto.length : Int):=by omega
   have hw2 : IntKind.i64.wrap ((j : Int) + 1) = ((j + 1 : Nat) : Int):=by rw [wrap_in (by omega) (by omega)];omega
   have hd : xto.drop j = n :: xto.drop (j + 1):=by
    obtain ⟨h1,h2⟩:=List.getElem?_eq_some_iff.1 hn
    rw [List.drop_eq_getElem_cons h1,h2]
   rw [hd] at hq
   have hb1:=hbk n st hnr hms
   have hb2:=hbl n st
   cases hv : (backP g f n st).1.2 with
   | false =>
    rw [app_bad hv] at hq
    generalize backP g f n st = r at *
    obtain ⟨⟨z,v⟩,st'⟩:=r
    simp only at hv hq
    subst hv
    simp only [backN] at hq
    subst hq
    simp only [bkA] at hcall ⊢
    obtain ⟨zk,zso,znm,zls,zl⟩:=z
    simp only [tp0,Tp.d,Tp.ds,List.map_nil] at hcall ⊢
    repeat' (first|(with_reducible apply zz1)|((with_reducible refine zz4 ?_ ?_);rfl)|((with_reducible refine zz2 ?_ (fun K' hK'=>?_));rfl;simp only [WC,simprocAttr,Int.toNat_natCast,hgd,hj0,hj1,List.length_map];(repeat (refine And.intro ?_ ?_;focus (clear hK';intros;simp_all;done)));(try (refine hK' _ _ ?_;clear hK' K')))|((with_reducible refine zz3 ?_ ?_);rfl;refine ⟨_,rfl,fun h=>?_,fun h=>?_⟩ <;> try exact absurd h (by decide)))
    refine stop_cS rfl (by simp only [UA,WC,simprocAttr,hins_cI]) (hcall ) ?_
    simp only [WC,simprocAttr,UM,  Int.toNat_natCast,jks_cI ]
    (try (refine hK' _ _ ?_;clear hK' K'))
    repeat' (first|(with_reducible apply zz1)|((with_reducible refine zz4 ?_ ?_);rfl)|((with_reducible refine zz2 ?_ (fun K' hK'=>?_));rfl;simp only [WC,simprocAttr,Bool.not_false,cond_true,cond_false];(repeat (refine And.intro ?_ ?_;focus (clear hK';intros;simp_all;done)));(try (refine hK' _ _ ?_;clear hK' K')))|((with_reducible refine zz3 ?_ ?_);rfl;refine ⟨_,rfl,fun h=>?_,fun h=>?_⟩ <;> try exact absurd h (by decide)))
    simp only [KretS,retL,retOne,oneV,US,WC,simprocAttr,h0]
    exact fzs_cI _ _ _
   | true =>
    rw [app_good hv] at hq
    have hb3:=hb1 hv
    have hb4:=hb2 hv
    have hms':=hb3.mr.ms hms
    have hsz:=hb3.sz
    clear hb1 hb2 hb3
    have hpos:=(backP g f n st).1.1.size_pos
    generalize backP g f n st = r at *
    obtain ⟨⟨z,v⟩,st'⟩:=r
    simp only at hv hq hms' hsz hpos hb4
    subst hv
    have hm : Tp.ds acc ++ [z.d] = Tp.ds (acc ++ [z]):=by rw [ds_appT]
    have hn5 : (j + 1) * 80 ≤ 140737488355328:=by omega
    have hn6 : j + 1 ≤ maxLen:=by unfold maxLen;omega
    simp only [bkA] at hcall
    have hacc2 : (acc ++ [z]).length = j + 1:=by simp [hacc]
    have hq1' : st'.left ≤ st1.left:=by omega
    obtain ⟨zk,zso,znm,zls,zl⟩:=z
    simp only [Tp.d] at hcall hm
    repeat' (first|(with_reducible apply zz1)|((with_reducible refine zz4 ?_ ?_);rfl)|((with_reducible refine zz2 ?_ (fun K' hK'=>?_));rfl;simp only [WC,simprocAttr,Int.toNat_natCast,hgd,hj0,hj1,List.length_map];(repeat (refine And.intro ?_ ?_;focus (clear hK';intros;simp_all;done)));(try (refine hK' _ _ ?_;clear hK' K')))|((with_reducible refine zz3 ?_ ?_);rfl;refine ⟨_,rfl,fun h=>?_,fun h=>?_⟩ <;> try exact absurd h (by decide)))
    refine stop_cS rfl (by simp only [UA,WC,simprocAttr,hins_cI]) (hcall ) ?_
    simp only [WC,simprocAttr,UM,  Int.toNat_natCast,jks_cI ]
    (try (refine hK' _ _ ?_;clear hK' K'))
    repeat' (first|(with_reducible apply zz1)|((with_reducible refine zz4 ?_ ?_);rfl)|((with_reducible refine zz2 ?_ (fun K' hK'=>?_));rfl;simp only [WC,simprocAttr,Bool.not_true,cond_true,cond_false,hal,hn5,hn6,hm,hw2,jks_cI,List.length_map];(repeat (refine And.intro ?_ ?_;focus (clear hK';intros;simp_all;done)));(try (refine hK' _ _ ?_;clear hK' K')))|((with_reducible refine zz3 ?_ ?_);rfl;refine ⟨_,rfl,fun h=>?_,fun h=>?_⟩ <;> try exact absurd h (by decide)))
    refine ⟨(j + 1,acc ++ [.mk zk zso znm zls zl],st'),⟨(by show j + 1 ≤ xto.length;omega),hacc2,hms',hb4,hq1',hq⟩,(by show xto.length - (j + 1) < xto.length - j;omega),by refine sub_of h0 ?_ ?_ ?_ <;> simp only [US,WC,simprocAttr,fzs_cI]⟩
 · have hj1 : ¬ (j : Int) < (xto.length : Int):=by omega
   have hjx : j = xto.length:=by omega
   rw [List.drop_of_length_le (by omega)] at hq
   have e : appO acc (backsP (backP g f) [] st) = (some acc,st):=by simp [appO,backsP]
   rw [e] at hq
   have hkn2 : k.toNat < st.on.length:=by rw [hms.ln];omega
   have hdr2:=cells_drop hkn2
   have hset2:=fun v=>cells_set hkn2 v
   have hlen2 : (st.on.map cI).length = g.length:=by simp [hms.ln]
   unfold backN at hq
   simp only [hXe] at hq
   refine swp_frz [21] h0 (by simp only [Option.isSome_some,UF,WC,simprocAttr]) ?_
   simp only [WC,simprocAttr,UF,  frzs_cI]
   have hw3 : IntKind.i64.wrap (st.left - 1) = st.left - 1:=wrap_in (by omega) (by omega)
   have hs0:=hset2 0
   by_cases c3 : st.on.getD k.toNat 0 = 2
   · rw [if_pos c3] at hq
     have g3 : ((2 : Int) == 2) = true:=by decide
     subst hq
     rw [c3] at hdr2
     have e1 : Tp.ds [.mk xk xso noB xls acc] = [.agg [iD xk,iD xso,sD noB,.slc (xls.map sD),.slc (Tp.ds acc)]]:=by simp only [Tp.ds,Tp.d]
     simp only [bkA,Tp.d,e1,List.map_nil]
     repeat' (first|(with_reducible apply zz1)|((with_reducible refine zz4 ?_ ?_);rfl)|((with_reducible refine zz2 ?_ (fun K' hK'=>?_));rfl;simp only [WC,simprocAttr,hj1,hdr2,hlen2,hkm,hk0,hk1,g3,hw3];(repeat (refine And.intro ?_ ?_;focus (clear hK';intros;simp_all;done)));(try (refine hK' _ _ ?_;clear hK' K')))|((with_reducible refine zz3 ?_ ?_);rfl;refine ⟨_,rfl,fun h=>?_,fun h=>?_⟩ <;> try exact absurd h (by decide)))
     (with_reducible refine swp_drawX ?_ ?_ ?_ (⟨⟨[(1,sD (nameP k))],[]⟩,[],[],[],[]⟩) _ rfl (fun K' hK' gops fin hgops hfin=>?_)
      · kernel_rfl
      · rfl
      · rfl
      repeat' first
       | (refine vcX_dead rfl trivial (by simp only [WC,simprocAttr,UX,UA];rfl) (by simp only [List.nil_append,List.cons_append];rfl) (by simp only [zn2];rfl) ?_)
       | (refine vcX_step rfl rfl trivial (by simp only [WC,simprocAttr,UX,UA,hnm,List.length_map ];rfl) ?_ (by simp only [WC,simprocAttr,UX,UA];rfl) (by simp only [WC,simprocAttr,UX,UA];rfl) (by simp only [List.nil_append,List.cons_append];rfl) (by simp only [zn2];rfl) ?_;focus (first | trivial | ((repeat' (refine And.intro ?_ ?_)) <;> first | trivial | assumption | (clear hK' hfin hgops;intros;simp_all;done))))
      (refine vcX_nil (by subst hfin;kernel_rfl) ?_)
      clear hfin hgops fin gops
      (try (refine hK' _ _ ?_;clear hK' K')))
     repeat' (first|(with_reducible apply zz1)|((with_reducible refine zz4 ?_ ?_);rfl)|((with_reducible refine zz2 ?_ (fun K' hK'=>?_));rfl;simp only [WC,simprocAttr,hdr2,hs0,hlen2,hkm,hk0,hk1];(repeat (refine And.intro ?_ ?_;focus (clear hK';intros;simp_all;done)));(try (refine hK' _ _ ?_;clear hK' K')))|((with_reducible refine zz3 ?_ ?_);rfl;refine ⟨_,rfl,fun h=>?_,fun h=>?_⟩ <;> try exact absurd h (by decide)))
     (with_reducible refine swp_drawX ?_ ?_ ?_ (⟨⟨[],[]⟩,[],[],[],[]⟩) _ rfl (fun K' hK' gops fin hgops hfin=>?_)
      · kernel_rfl
      · rfl
      · rfl
      repeat' first
       | (refine vcX_dead rfl trivial (by simp only [WC,simprocAttr,UX,UA];rfl) (by simp only [List.nil_append,List.cons_append];rfl) (by simp only [zn2];rfl) ?_)
       | (refine vcX_step rfl rfl trivial (by simp only [WC,simprocAttr,UX,UA,List.length_map ];rfl) ?_ (by simp only [WC,simprocAttr,UX,UA];rfl) (by simp only [WC,simprocAttr,UX,UA];rfl) (by simp only [List.nil_append,List.cons_append];rfl) (by simp only [zn2];rfl) ?_;focus (first | trivial | ((repeat' (refine And.intro ?_ ?_)) <;> first | trivial | assumption | (clear hK' hfin hgops;intros;simp_all;done))))
      (refine vcX_nil (by subst hfin;kernel_rfl) ?_)
      clear hfin hgops fin gops
      (try (refine hK' _ _ ?_;clear hK' K')))
     repeat' (first|(with_reducible apply zz1)|((with_reducible refine zz4 ?_ ?_);rfl)|((with_reducible refine zz2 ?_ (fun K' hK'=>?_));rfl;simp only [WC,simprocAttr];(repeat (refine And.intro ?_ ?_;focus (clear hK';intros;simp_all;done)));(try (refine hK' _ _ ?_;clear hK' K')))|((with_reducible refine zz3 ?_ ?_);rfl;refine ⟨_,rfl,fun h=>?_,fun h=>?_⟩ <;> try exact absurd h (by decide)))
     simp only [KretS,retL,retOne,oneV,US,WC,simprocAttr,h0]
     exact fzs_cI _ _ _
   · rw [if_neg c3] at hq
     have g3 : (st.on.getD k.toNat 0 == 2) = false:=by simpa using c3
     subst hq
     simp only [bkA,Tp.d,List.map_nil]
     repeat' (first|(with_reducible apply zz1)|((with_reducible refine zz4 ?_ ?_);rfl)|((with_reducible refine zz2 ?_ (fun K' hK'=>?_));rfl;simp only [WC,simprocAttr,hj1,hdr2,hs0,hlen2,hkm,hk0,hk1,g3];(repeat (refine And.intro ?_ ?_;focus (clear hK';intros;simp_all;done)));(try (refine hK' _ _ ?_;clear hK' K')))|((with_reducible refine zz3 ?_ ?_);rfl;refine ⟨_,rfl,fun h=>?_,fun h=>?_⟩ <;> try exact absurd h (by decide)))
     (with_reducible refine swp_drawX ?_ ?_ ?_ (⟨⟨[],[]⟩,[],[],[],[]⟩) _ rfl (fun K' hK' gops fin hgops hfin=>?_)
      · kernel_rfl
      · rfl
      · rfl
      repeat' first
       | (refine vcX_dead rfl trivial (by simp only [WC,simprocAttr,UX,UA];rfl) (by simp only [List.nil_append,List.cons_append];rfl) (by simp only [zn2];rfl) ?_)
       | (refine vcX_step rfl rfl trivial (by simp only [WC,simprocAttr,UX,UA,List.length_map ];rfl) ?_ (by simp only [WC,simprocAttr,UX,UA];rfl) (by simp only [WC,simprocAttr,UX,UA];rfl) (by simp only [List.nil_append,List.cons_append];rfl) (by simp only [zn2];rfl) ?_;focus (first | trivial | ((repeat' (refine And.intro ?_ ?_)) <;> first | trivial | assumption | (clear hK' hfin hgops;intros;simp_all;done))))
      (refine vcX_nil (by subst hfin;kernel_rfl) ?_)
      clear hfin hgops fin gops
      (try (refine hK' _ _ ?_;clear hK' K')))
     repeat' (first|(with_reducible apply zz1)|((with_reducible refine zz4 ?_ ?_);rfl)|((with_reducible refine zz2 ?_ (fun K' hK'=>?_));rfl;simp only [WC,simprocAttr];(repeat (refine And.intro ?_ ?_;focus (clear hK';intros;simp_all;done)));(try (refine hK' _ _ ?_;clear hK' K')))|((with_reducible refine zz3 ?_ ?_);rfl;refine ⟨_,rfl,fun h=>?_,fun h=>?_⟩ <;> try exact absurd h (by decide)))
     simp only [KretS,retL,retOne,oneV,US,WC,simprocAttr,h0]
     exact fzs_cI _ _ _
theorem back_fn (Γ : Gl) {g : List Nd} (hg : ∀ n ∈ g,NdG g.length n) (hs : ShG g) (h200 : g.length ≤ 200) : ∀ f,BackS Γ g f
 | 0=>fun k st _ _ h1 h2 _=>by omega
 | f + 1=>back_step Γ hg hs h200 f (back_fn Γ hg hs h200 f)
end Go.Proofs.YtgecnlcbdbaneaaDoor
