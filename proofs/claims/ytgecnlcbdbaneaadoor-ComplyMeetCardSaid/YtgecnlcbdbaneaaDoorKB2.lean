/- graph.back; a symbolic walk. -/
import Derived.Test.YtgecnlcbdbaneaaDoorKB1
import Derived.Test.YtgecnlcbdbaneaaDoorHQ4
import Derived.Test.YtgecnlcbdbaneaaDoorHQ5
import Derived.Test.YtgecnlcbdbaneaaDoorSwD
-- TYPESC
set_option linter.unusedVariables false
set_option linter.unusedSimpArgs false
namespace Go.Proofs.YtgecnlcbdbaneaaDoor
open Go.RowKit Go.Sw
open _root_.List renaming length_map → za, nil_append → zb, cons_append → ze, map_nil → zf, getElem_append_left → zi, drop_eq_getElem_cons → zm, getElem_set_ne → zn, getElem_append_right → zo, map_cons → zq
open _root_.Int renaming toNat_natCast → zh
open Nat renaming reduceAdd → zn2

def cI (m : Int) : SV:=.d (iD m)
def bkA (r : (Tp × Bool) × qy9) : D:=.tup [r.1.1.d,bD r.1.2]
def BackS (Γ : Gl) (g : List Nd) (f : Nat) : Prop := ∀ (k : Int) (st : qy9),0 ≤ k ∧ k < (g.length : Int) → Ms g.length st.on → 0 ≤ st.left → st.left < (f : Int) → st.left ≤ 60 →
 SFn Tryd.prog Γ 51 [.d (.slc (g.map Nd.d)),.d (iD k),.sref 0 g.length,.ref 1 0] [(0,.cells (st.on.map cI)),(1,.cells [.d (iD st.left)])] (.d (bkA (qn5 g f k st))) [(0,.cells ((qn5 g f k st).2.on.map cI)),(1,.cells [.d (iD (qn5 g f k st).2.left)])]
theorem vp8 {on : List Int} {k : Nat} (h : k < on.length) : (on.map cI).drop k = .d (iD (on.getD k 0)) :: (on.map cI).drop (k + 1):=by
 rw [zm (by simpa using h)]
 simp [cI,List.getD,h]
theorem xb1 {on : List Int} {k : Nat} (h : k < on.length) (v : Int) : (on.map cI).take k ++ [SV.d (iD v)] ++ (on.map cI).drop (k + 1) = (on.set k v).map cI:=by
 apply List.ext_getElem
 · simp;omega
 · intro i h1 h2
   simp only [za,List.length_set] at h2
   by_cases hi : i < k
   · rw [zi (by simp;omega),zi (by simp;omega)]
     simp [zn (by omega : k ≠ i)]
   · by_cases hk : i = k
     · subst hk
       rw [zi (by simp;omega),zo (by simp;omega)]
       simp [cI]
     · rw [zo (by simp;omega)]
       simp only [List.length_append,List.length_take,za,List.length_cons,List.length_nil,List.getElem_drop,List.getElem_map]
       rw [zn (by omega)]
       congr 2
       omega
theorem vf7 (s s' : St) : ∀ on : List Int,FZs s s' (on.map cI) (on.map cI)
 | []=>trivial
 | m :: on=>⟨⟨rfl,trivial⟩,vf7 s s' on⟩
theorem vv4 (s : St) : ∀ on : List Int,hins s (on.map cI)
 | []=>trivial
 | m :: on=>⟨trivial,vv4 s on⟩
theorem vz3 (X : Nat → Bool) : ∀ on : List Int,SV.jks X (on.map cI) = on.map cI
 | []=>rfl
 | m :: on=>by rw [zq,SV.jks,vz3 X on];rfl
theorem yk9 (s : St) (X : List Nat) : ∀ on : List Int,SV.frzs s X (on.map cI) = on.map cI
 | []=>rfl
 | m :: on=>by rw [zq,SV.frzs,yk9 s X on];rfl
def vo2 (acc : List Tp) (q : Option (List Tp) × qy9) : Option (List Tp) × qy9:=(match q.1 with | none=>none | some xs=>some (acc ++ xs),q.2)
theorem app_nil (q : Option (List Tp) × qy9) : vo2 [] q = q:=by
 obtain ⟨a,b⟩:=q
 cases a <;> rfl
theorem app_bad {acc : List Tp} {b : Int → qy9 → (Tp × Bool) × qy9} {n : Int} {l : List Int} {st : qy9} (h : (b n st).1.2 = false) : vo2 acc (qi2 b (n :: l) st) = (none,(b n st).2):=by
 unfold vo2 qi2
 rw [if_neg (by simp [h])]
theorem yr0 {acc : List Tp} {b : Int → qy9 → (Tp × Bool) × qy9} {n : Int} {l : List Int} {st : qy9} (h : (b n st).1.2 = true) : vo2 acc (qi2 b (n :: l) st) = vo2 (acc ++ [(b n st).1.1]) (qi2 b l (b n st).2):=by
 unfold vo2
 conv=>lhs;unfold qi2
 rw [if_pos h]
 cases (qi2 b l (b n st).2).1 <;> simp
set_option maxHeartbeats 16000000 in
set_option maxRecDepth 100000 in
theorem yf0 (Γ : Gl) {g : List Nd} (hg : ∀ n ∈ g,NdG g.length n) (hs : ShG g) (h200 : g.length ≤ 200) (f : Nat) (ih : BackS Γ g f) : BackS Γ g (f + 1):=by
 intro k st hk hm hl0 hlf hl60
 have hbk:=xh0 hg hs h200 f
 have hbl:=fun n st=>xa5 (g:=g) f n st
 obtain ⟨R,hR⟩ : ∃ R,qn5 g (f + 1) k st = R:=⟨_,rfl⟩
 rw [hR]
 have hkn : k.toNat < st.on.length:=by rw [hm.ln];omega
 have hdr:=vp8 hkn
 have hset:=fun v=>xb1 hkn v
 have hlen : (st.on.map cI).length = g.length:=by simp [hm.ln]
 have hkm : k.toNat + 1 ≤ g.length:=by omega
 have hk0:=hk.1
 have hk1:=hk.2
 have hgm:=qd0 hk0 hk1
 have hga:=qq3 hk0 hk1
 have hX:=(hg _ hgm)
 have hto : ∀ t ∈ (gAt g k).to,0 ≤ t ∧ t < (g.length : Int):=hX.ok.r
 have hto6:=hX.ok.to
 have hls6:=hX.ok.ls
 have hnm:=name_fn Γ k hk0 (by omega)
 have hm1 : Ms g.length (st.on.set k.toNat 1):=⟨by simp [hm.ln],fun j=>by
  rw [qr4 hkn];split
  · exact .inr (.inl rfl)
  · exact hm.m j⟩
 obtain ⟨on,left⟩:=st
 simp only at hl0 hlf hl60 hkn hdr hset hlen hm1 hm
 have hw : IntKind.i64.wrap (left - 1) = left - 1:=qd7 (by omega) (by omega)
 unfold qn5 at hR
 simp only at hR
 refine qe0 (N:=107) Tryd.func51 rfl (by decide) rfl rfl (by simp) (fun C h0=>?_)
 simp only [vg9]
 by_cases c1 : left - 1 < 0
 · rw [if_pos c1] at hR
   subst hR
   simp only [bkA,tp0,Tp.d,Tp.ds,zf]
   repeat' (first|(with_reducible apply zz1)|((with_reducible apply zz2);rfl;intro K' hK';simp only [WC,simprocAttr,hw,c1];(repeat (constructor;focus (clear hK';intros;simp_all;done)));(try (apply hK';clear hK' K')))|((with_reducible apply zz3);rfl;all_goals (intro h;try exact absurd h (by decide))))
   simp only [qf8,qd5,qa2,qd6,US,WC,simprocAttr,h0]
   exact vf7 _ _ _
 rw [if_neg c1] at hR
 by_cases c2 : 0 < on.getD k.toNat 0
 · rw [if_pos c2] at hR
   subst hR
   have hs2:=hset 2
   simp only [bkA,Tp.d,Tp.ds,zf]
   repeat' (first|(with_reducible apply zz1)|((with_reducible apply zz2);rfl;intro K' hK';simp only [WC,simprocAttr,hw,c1,c2,hdr,hs2,hlen,hkm,hk0,hk1];(repeat (constructor;focus (clear hK';intros;simp_all;done)));(try (apply hK';clear hK' K')))|((with_reducible apply zz3);rfl;all_goals (intro h;try exact absurd h (by decide))))
   refine qb1 rfl (by simp only [WC,simprocAttr]) rfl rfl (hnm) ?_
   simp only [WC,simprocAttr,inX,qc7, ]
   (repeat (constructor;focus (clear hK';intros;simp_all;done)))
   (try (apply hK';clear hK' K'))
   repeat' (first|(with_reducible apply zz1)|((with_reducible apply zz2);rfl;intro K' hK';simp only [WC,simprocAttr];(repeat (constructor;focus (clear hK';intros;simp_all;done)));(try (apply hK';clear hK' K')))|((with_reducible apply zz3);rfl;all_goals (intro h;try exact absurd h (by decide))))
   simp only [qf8,qd5,qa2,qd6,US,WC,simprocAttr,h0]
   exact vf7 _ _ _
 rw [if_neg c2] at hR
 have hs1:=hset 1
 have hcS:=vd2 Γ (gAt g k).ls (by omega)
 generalize hXe : gAt g k = X at *
 obtain ⟨xk,xso,xls,xto⟩:=X
 simp only [Nd.d] at hga hcS hto hto6 hls6 hR
 have hxl : (xto.map iD).length = xto.length:=by simp
 repeat' (first|(with_reducible apply zz1)|((with_reducible apply zz2);rfl;intro K' hK';simp only [WC,simprocAttr,hw,c1,c2,hdr,hs1,hlen,hkm,hk0,hk1];(repeat (constructor;focus (clear hK';intros;simp_all;done)));(try (apply hK';clear hK' K')))|((with_reducible apply zz3);rfl;all_goals (intro h;try exact absurd h (by decide))))
 (with_reducible refine qa6 ?_ ?_ ?_ (⟨⟨[(15,.slc (xls.map sD))],[]⟩,[],[],[],[]⟩) _ rfl (fun K' hK' gops fin hgops hfin=>?_)
  · kernel_rfl
  · rfl
  · rfl
  repeat' first
   | (refine qa9 rfl trivial (by simp only [WC,simprocAttr,UX,UA];rfl) (by simp only [zb,ze];rfl) (by simp only [zn2];rfl) ?_)
   | (refine qa8 rfl rfl trivial (by simp only [WC,simprocAttr,UX,UA,hcS,hga,hk0,hk1,za ];rfl) ?_ (by simp only [WC,simprocAttr,UX,UA];rfl) (by simp only [WC,simprocAttr,UX,UA];rfl) (by simp only [zb,ze];rfl) (by simp only [zn2];rfl) ?_;focus (first | trivial | ((repeat' constructor) <;> first | trivial | assumption | (clear hK' hfin hgops;intros;simp_all;done))))
  (refine qb5 (by subst hfin;kernel_rfl) ?_)
  clear hfin hgops fin gops
  (try (apply hK';clear hK' K')))
 repeat' (first|(with_reducible apply zz1)|((with_reducible apply zz2);rfl;intro K' hK';simp only [WC,simprocAttr,hga,hk0,hk1,za];(repeat (constructor;focus (clear hK';intros;simp_all;done)));(try (apply hK';clear hK' K')))|((with_reducible apply zz3);rfl;all_goals (intro h;try exact absurd h (by decide))))
 refine qj4 20 4 21 5 rfl rfl rfl (by decide) ?_
 simp only [WC,simprocAttr]
 generalize hst1 : (⟨on.set k.toNat 1,left - 1⟩ : qy9) = st1 at *
 have hs1on : on.set k.toNat 1 = st1.on:=by rw [← hst1]
 have hs1l : left - 1 = st1.left:=by rw [← hst1]
 rw [hs1on] at hm1 ⊢
 refine qd3 (α := Nat × List Tp × qy9) (fun q=>[(0,.d (.slc (g.map Nd.d))),(1,.d (iD k)),(2,.sref 0 g.length),(3,.ref 1 0),(8,.ref 2 0),(9,.d (bD false)),(10,.ref 20 0),(60,.d (.slc (xto.map iD))),(61,.d (iD xto.length)),(62,.d (iD q.1))])
  (fun q=>[(0,.cells (q.2.2.on.map cI)),(1,.cells [.d (iD q.2.2.left)]),(2,.cells [.d (iD 0),.d (iD 0),.d (sD noB),.nil,.nil]),(20,.cells [.d (iD xk),.d (iD xso),.d (sD noB),.d (.slc (xls.map sD)),.own 21]),(21,.row 5 (Tp.ds q.2.1))])
  (fun q=>q.1 ≤ xto.length ∧ q.2.1.length = q.1 ∧ Ms g.length q.2.2.on ∧ 0 ≤ q.2.2.left ∧ q.2.2.left ≤ st1.left ∧ vv7 g k (vo2 q.2.1 (qi2 (qn5 g f) (xto.drop q.1) q.2.2)) = R) (fun q=>xto.length - q.1) (0,[],st1) ⟨Nat.zero_le _,rfl,hm1,(by show 0 ≤ st1.left;omega),Int.le_refl _,?_⟩ (by simp only [hs1l,Tp.ds];refine qa3 h0 ?_ ?_ ?_ <;> simp only [US,WC,simprocAttr,vf7]) (fun q hq=>?_)
 · show vv7 g k (vo2 [] (qi2 (qn5 g f) xto st1)) = R
   rw [← hR,app_nil]
 obtain ⟨j,acc,st⟩:=q
 obtain ⟨hj,hacc,hms,hq0,hq1,hq⟩:=hq
 simp only at hj hacc hms hq0 hq1 hq
 have hal : (Tp.ds acc).length = j:=by rw [Tp.ds_len];exact hacc
 have hj0 : (0 : Int) ≤ (j : Int):=by omega
 clear hR
 by_cases hjl : j < xto.length
 · obtain ⟨n,hn⟩ : ∃ n,xto[j]? = some n:=⟨xto[j],by simp [hjl]⟩
   have hnr:=hto n (List.mem_of_getElem? hn)
   have hcall:=ih n st hnr hms hq0 (by omega) (by omega)
   have hgd : (xto.map iD).getD j default = iD n:=by simp [List.getD,hn]
   have hj1 : (j : Int) < (xto.length : Int):=by omega
   have hw2 : IntKind.i64.wrap ((j : Int) + 1) = ((j + 1 : Nat) : Int):=by rw [qd7 (by omega) (by omega)];omega
   have hd : xto.drop j = n :: xto.drop (j + 1):=by
    obtain ⟨h1,h2⟩:=List.getElem?_eq_some_iff.1 hn
    rw [zm h1,h2]
   rw [hd] at hq
   have hb1:=hbk n st hnr hms
   have hb2:=hbl n st
   cases hv : (qn5 g f n st).1.2 with
   | false =>
    rw [app_bad hv] at hq
    generalize qn5 g f n st = r at *
    obtain ⟨⟨z,v⟩,st'⟩:=r
    simp only at hv hq
    subst hv
    simp only [vv7] at hq
    subst hq
    simp only [bkA] at hcall ⊢
    obtain ⟨zk,zso,znm,zls,zl⟩:=z
    simp only [tp0,Tp.d,Tp.ds,zf] at hcall ⊢
    repeat' (first|(with_reducible apply zz1)|((with_reducible apply zz2);rfl;intro K' hK';simp only [WC,simprocAttr,zh,hgd,hj0,hj1,za];(repeat (constructor;focus (clear hK';intros;simp_all;done)));(try (apply hK';clear hK' K')))|((with_reducible apply zz3);rfl;all_goals (intro h;try exact absurd h (by decide))))
    refine qm7 rfl (by simp only [UA,WC,simprocAttr,vv4]) (hcall ) ?_
    simp only [WC,simprocAttr,UM,  zh,vz3 ]
    (try (apply hK';clear hK' K'))
    repeat' (first|(with_reducible apply zz1)|((with_reducible apply zz2);rfl;intro K' hK';simp only [WC,simprocAttr,Bool.not_false,cond_true,cond_false];(repeat (constructor;focus (clear hK';intros;simp_all;done)));(try (apply hK';clear hK' K')))|((with_reducible apply zz3);rfl;all_goals (intro h;try exact absurd h (by decide))))
    simp only [qf8,qd5,qa2,qd6,US,WC,simprocAttr,h0]
    exact vf7 _ _ _
   | true =>
    rw [yr0 hv] at hq
    have hb3:=hb1 hv
    have hb4:=hb2 hv
    have hms':=hb3.mr.ms hms
    have hsz:=hb3.sz
    clear hb1 hb2 hb3
    have hpos:=(qn5 g f n st).1.1.size_pos
    generalize qn5 g f n st = r at *
    obtain ⟨⟨z,v⟩,st'⟩:=r
    simp only at hv hq hms' hsz hpos hb4
    subst hv
    have hm : Tp.ds acc ++ [z.d] = Tp.ds (acc ++ [z]):=by rw [ds_appT]
    have hn5 : (j + 1) * 80 ≤ 140737488355328:=by omega
    have hn6 : j + 1 ≤ maxLen:=by unfold maxLen;omega
    simp only [bkA] at hcall
    have hacc2 : (acc ++ [z]).length = j + 1:=by simp [hacc]
    have hq1' : st'.left ≤ st1.left:=by omega
    obtain ⟨zk,zso,znm,zls,zl⟩:=z
    simp only [Tp.d] at hcall hm
    repeat' (first|(with_reducible apply zz1)|((with_reducible apply zz2);rfl;intro K' hK';simp only [WC,simprocAttr,zh,hgd,hj0,hj1,za];(repeat (constructor;focus (clear hK';intros;simp_all;done)));(try (apply hK';clear hK' K')))|((with_reducible apply zz3);rfl;all_goals (intro h;try exact absurd h (by decide))))
    refine qm7 rfl (by simp only [UA,WC,simprocAttr,vv4]) (hcall ) ?_
    simp only [WC,simprocAttr,UM,  zh,vz3 ]
    (try (apply hK';clear hK' K'))
    repeat' (first|(with_reducible apply zz1)|((with_reducible apply zz2);rfl;intro K' hK';simp only [WC,simprocAttr,Bool.not_true,cond_true,cond_false,hal,hn5,hn6,hm,hw2,vz3,za];(repeat (constructor;focus (clear hK';intros;simp_all;done)));(try (apply hK';clear hK' K')))|((with_reducible apply zz3);rfl;all_goals (intro h;try exact absurd h (by decide))))
    refine ⟨(j + 1,acc ++ [.mk zk zso znm zls zl],st'),⟨(by show j + 1 ≤ xto.length;omega),hacc2,hms',hb4,hq1',hq⟩,(by show xto.length - (j + 1) < xto.length - j;omega),by refine qa3 h0 ?_ ?_ ?_ <;> simp only [US,WC,simprocAttr,vf7]⟩
 · have hj1 : ¬ (j : Int) < (xto.length : Int):=by omega
   have hjx : j = xto.length:=by omega
   rw [List.drop_of_length_le (by omega)] at hq
   have e : vo2 acc (qi2 (qn5 g f) [] st) = (some acc,st):=by simp [vo2,qi2]
   rw [e] at hq
   have hkn2 : k.toNat < st.on.length:=by rw [hms.ln];omega
   have hdr2:=vp8 hkn2
   have hset2:=fun v=>xb1 hkn2 v
   have hlen2 : (st.on.map cI).length = g.length:=by simp [hms.ln]
   unfold vv7 at hq
   simp only [hXe] at hq
   refine ql3 [21] h0 (by simp only [Option.isSome_some,UF,WC,simprocAttr]) ?_
   simp only [WC,simprocAttr,UF,  yk9]
   have hw3 : IntKind.i64.wrap (st.left - 1) = st.left - 1:=qd7 (by omega) (by omega)
   have hs0:=hset2 0
   by_cases c3 : st.on.getD k.toNat 0 = 2
   · rw [if_pos c3] at hq
     have g3 : ((2 : Int) == 2) = true:=by decide
     subst hq
     rw [c3] at hdr2
     have e1 : Tp.ds [.mk xk xso noB xls acc] = [.agg [iD xk,iD xso,sD noB,.slc (xls.map sD),.slc (Tp.ds acc)]]:=by simp only [Tp.ds,Tp.d]
     simp only [bkA,Tp.d,e1,zf]
     repeat' (first|(with_reducible apply zz1)|((with_reducible apply zz2);rfl;intro K' hK';simp only [WC,simprocAttr,hj1,hdr2,hlen2,hkm,hk0,hk1,g3,hw3];(repeat (constructor;focus (clear hK';intros;simp_all;done)));(try (apply hK';clear hK' K')))|((with_reducible apply zz3);rfl;all_goals (intro h;try exact absurd h (by decide))))
     (with_reducible refine qa6 ?_ ?_ ?_ (⟨⟨[(1,sD (qw1 k))],[]⟩,[],[],[],[]⟩) _ rfl (fun K' hK' gops fin hgops hfin=>?_)
      · kernel_rfl
      · rfl
      · rfl
      repeat' first
       | (refine qa9 rfl trivial (by simp only [WC,simprocAttr,UX,UA];rfl) (by simp only [zb,ze];rfl) (by simp only [zn2];rfl) ?_)
       | (refine qa8 rfl rfl trivial (by simp only [WC,simprocAttr,UX,UA,hnm,za ];rfl) ?_ (by simp only [WC,simprocAttr,UX,UA];rfl) (by simp only [WC,simprocAttr,UX,UA];rfl) (by simp only [zb,ze];rfl) (by simp only [zn2];rfl) ?_;focus (first | trivial | ((repeat' constructor) <;> first | trivial | assumption | (clear hK' hfin hgops;intros;simp_all;done))))
      (refine qb5 (by subst hfin;kernel_rfl) ?_)
      clear hfin hgops fin gops
      (try (apply hK';clear hK' K')))
     repeat' (first|(with_reducible apply zz1)|((with_reducible apply zz2);rfl;intro K' hK';simp only [WC,simprocAttr,hdr2,hs0,hlen2,hkm,hk0,hk1];(repeat (constructor;focus (clear hK';intros;simp_all;done)));(try (apply hK';clear hK' K')))|((with_reducible apply zz3);rfl;all_goals (intro h;try exact absurd h (by decide))))
     (with_reducible refine qa6 ?_ ?_ ?_ (⟨⟨[],[]⟩,[],[],[],[]⟩) _ rfl (fun K' hK' gops fin hgops hfin=>?_)
      · kernel_rfl
      · rfl
      · rfl
      repeat' first
       | (refine qa9 rfl trivial (by simp only [WC,simprocAttr,UX,UA];rfl) (by simp only [zb,ze];rfl) (by simp only [zn2];rfl) ?_)
       | (refine qa8 rfl rfl trivial (by simp only [WC,simprocAttr,UX,UA,za ];rfl) ?_ (by simp only [WC,simprocAttr,UX,UA];rfl) (by simp only [WC,simprocAttr,UX,UA];rfl) (by simp only [zb,ze];rfl) (by simp only [zn2];rfl) ?_;focus (first | trivial | ((repeat' constructor) <;> first | trivial | assumption | (clear hK' hfin hgops;intros;simp_all;done))))
      (refine qb5 (by subst hfin;kernel_rfl) ?_)
      clear hfin hgops fin gops
      (try (apply hK';clear hK' K')))
     repeat' (first|(with_reducible apply zz1)|((with_reducible apply zz2);rfl;intro K' hK';simp only [WC,simprocAttr];(repeat (constructor;focus (clear hK';intros;simp_all;done)));(try (apply hK';clear hK' K')))|((with_reducible apply zz3);rfl;all_goals (intro h;try exact absurd h (by decide))))
     simp only [qf8,qd5,qa2,qd6,US,WC,simprocAttr,h0]
     exact vf7 _ _ _
   · rw [if_neg c3] at hq
     have g3 : (st.on.getD k.toNat 0 == 2) = false:=by simpa using c3
     subst hq
     simp only [bkA,Tp.d,zf]
     repeat' (first|(with_reducible apply zz1)|((with_reducible apply zz2);rfl;intro K' hK';simp only [WC,simprocAttr,hj1,hdr2,hs0,hlen2,hkm,hk0,hk1,g3];(repeat (constructor;focus (clear hK';intros;simp_all;done)));(try (apply hK';clear hK' K')))|((with_reducible apply zz3);rfl;all_goals (intro h;try exact absurd h (by decide))))
     (with_reducible refine qa6 ?_ ?_ ?_ (⟨⟨[],[]⟩,[],[],[],[]⟩) _ rfl (fun K' hK' gops fin hgops hfin=>?_)
      · kernel_rfl
      · rfl
      · rfl
      repeat' first
       | (refine qa9 rfl trivial (by simp only [WC,simprocAttr,UX,UA];rfl) (by simp only [zb,ze];rfl) (by simp only [zn2];rfl) ?_)
       | (refine qa8 rfl rfl trivial (by simp only [WC,simprocAttr,UX,UA,za ];rfl) ?_ (by simp only [WC,simprocAttr,UX,UA];rfl) (by simp only [WC,simprocAttr,UX,UA];rfl) (by simp only [zb,ze];rfl) (by simp only [zn2];rfl) ?_;focus (first | trivial | ((repeat' constructor) <;> first | trivial | assumption | (clear hK' hfin hgops;intros;simp_all;done))))
      (refine qb5 (by subst hfin;kernel_rfl) ?_)
      clear hfin hgops fin gops
      (try (apply hK';clear hK' K')))
     repeat' (first|(with_reducible apply zz1)|((with_reducible apply zz2);rfl;intro K' hK';simp only [WC,simprocAttr];(repeat (constructor;focus (clear hK';intros;simp_all;done)));(try (apply hK';clear hK' K')))|((with_reducible apply zz3);rfl;all_goals (intro h;try exact absurd h (by decide))))
     simp only [qf8,qd5,qa2,qd6,US,WC,simprocAttr,h0]
     exact vf7 _ _ _
theorem yl1 (Γ : Gl) {g : List Nd} (hg : ∀ n ∈ g,NdG g.length n) (hs : ShG g) (h200 : g.length ≤ 200) : ∀ f,BackS Γ g f
 | 0=>fun k st _ _ h1 h2 _=>by omega
 | f + 1=>yf0 Γ hg hs h200 f (yl1 Γ hg hs h200 f)
end Go.Proofs.YtgecnlcbdbaneaaDoor
/- graph.Back; a symbolic walk. -/
-- TYPESC
namespace Go.Proofs.YtgecnlcbdbaneaaDoor
open Go.RowKit Go.Sw
open _root_.List renaming replicate → za

def sw02 (i : Nat) : Nat:=if i = 0 then 2 else if i = 2 then 0 else i
theorem yt5 (i j : Nat) (h : sw02 i = sw02 j) : i = j:=by
 unfold sw02 at h
 repeat' split at h
 all_goals omega
theorem xy4 (σ : Nat → Nat) : ∀ on : List Int,SV.rens σ (on.map cI) = on.map cI
 | []=>rfl
 | m :: on=>by rw [List.map_cons,SV.rens,xy4 σ on];rfl
def BackA (g : List Nd) : D:=if (vp1 g).2 = true then .tup [(vp1 g).1.d,iD 0] else .tup [tp0.d,iD 2]
set_option maxHeartbeats 8000000 in
set_option maxRecDepth 100000 in
theorem Back_fn (Γ : Gl) {g : List Nd} (Hg : Gd g) : DFn Tryd.prog Γ 15 [.slc (g.map Nd.d)] (BackA g):=by
 have hC:=qz7 Γ g Hg.pos Hg.le Hg.ok Hg.sh
 have h200:=Hg.le
 have hcall:=(yl1 Γ Hg.ok Hg.sh Hg.le 61 0 ⟨za g.length 0,60⟩ ⟨by omega,by have:=Hg.pos;omega⟩ ⟨by simp,fun j=>.inl (by
  by_cases hj : j < g.length <;> simp [List.getD,List.getElem?_replicate,hj])⟩ (show (0 : Int) ≤ 60 by decide) (show (60 : Int) < 61 by decide) (show (60 : Int) ≤ 60 by decide)).ren yt5
 simp only [SV.rens,SV.ren,vi9,Box.ren,xy4] at hcall
 rw [show sw02 0 = 2 from rfl,show sw02 1 = 1 from rfl] at hcall
 unfold BackA vp1
 generalize qn5 g 61 0 ⟨za g.length 0,60⟩ = r at *
 obtain ⟨⟨z,v⟩,st'⟩:=r
 obtain ⟨i3,hi3,hz3,hs3,hb3⟩:=info3
 have hrep : za g.length (SV.d (.v (.int .i64 0))) = (za g.length (0 : Int)).map cI:=by simp [cI]
 simp only [bkA] at hcall ⊢
 obtain ⟨zk,zso,znm,zls,zl⟩:=z
 simp only [Tp.d,tp0,Tp.ds,List.map_nil] at hcall ⊢
 have hpos:=Hg.pos
 refine qa4 (N:=28) Tryd.func15 rfl (by decide) rfl rfl (by simp) (fun C h0=>?_)
 simp only [qj1]
 repeat' (first|(with_reducible apply zz1)|((with_reducible apply zz2);rfl;intro K' hK';simp only [WC,simprocAttr];(repeat (constructor;focus (clear hK';intros;simp_all;done)));(try (apply hK';clear hK' K')))|((with_reducible apply zz3);rfl;all_goals (intro h;try exact absurd h (by decide))))
 refine qb1 rfl (by simp only [WC,simprocAttr]) rfl rfl (hC) ?_
 simp only [WC,simprocAttr,inX,qc7, ]
 (repeat (constructor;focus (clear hK';intros;simp_all;done)))
 (try (apply hK';clear hK' K'))
 repeat' (first|(with_reducible apply zz1)|((with_reducible apply zz2);rfl;intro K' hK';simp only [WC,simprocAttr,bne_self_eq_false,List.length_map];(repeat (constructor;focus (clear hK';intros;simp_all;done)));(try (apply hK';clear hK' K')))|((with_reducible apply zz3);rfl;all_goals (intro h;try exact absurd h (by decide))))
 -- TRACE
 refine xv0 (n:=g.length) rfl un50 hi3 hz3 hs3 rfl rfl rfl rfl (by rw [hb3];omega) (by unfold maxLen;omega) rfl ?_
 simp only [WC,simprocAttr,  hrep]
 (repeat (constructor;focus (clear hK';intros;simp_all;done)))
 (try (apply hK';clear hK' K'))
 repeat' (first|(with_reducible apply zz1)|((with_reducible apply zz2);rfl;intro K' hK';simp only [WC,simprocAttr];(repeat (constructor;focus (clear hK';intros;simp_all;done)));(try (apply hK';clear hK' K')))|((with_reducible apply zz3);rfl;all_goals (intro h;try exact absurd h (by decide))))
 -- TRACE
 refine qm7 rfl (by simp only [UA,WC,simprocAttr,vv4]) (hcall ) ?_
 simp only [WC,simprocAttr,UM,  vz3 ]
 (try (apply hK';clear hK' K'))
 cases v with
 | true =>
  rw [if_pos rfl]
  repeat' (first|(with_reducible apply zz1)|((with_reducible apply zz2);rfl;intro K' hK';simp only [WC,simprocAttr,Bool.not_true,cond_true,cond_false];(repeat (constructor;focus (clear hK';intros;simp_all;done)));(try (apply hK';clear hK' K')))|((with_reducible apply zz3);rfl;all_goals (intro h;try exact absurd h (by decide))))
  simp only [qf7,qd5,qa2,qd6,WC,simprocAttr]
 | false =>
  rw [if_neg (by decide)]
  repeat' (first|(with_reducible apply zz1)|((with_reducible apply zz2);rfl;intro K' hK';simp only [WC,simprocAttr,Bool.not_false,cond_true,cond_false];(repeat (constructor;focus (clear hK';intros;simp_all;done)));(try (apply hK';clear hK' K')))|((with_reducible apply zz3);rfl;all_goals (intro h;try exact absurd h (by decide))))
  simp only [qf7,qd5,qa2,qd6,WC,simprocAttr]
end Go.Proofs.YtgecnlcbdbaneaaDoor
