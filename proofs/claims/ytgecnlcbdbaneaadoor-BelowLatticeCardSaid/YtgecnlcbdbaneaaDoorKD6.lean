/- What is left bounds both graphs; nothing bounds them better: plain. -/
import Derived.Test.YtgecnlcbdbaneaaDoorKD4
set_option linter.unusedVariables false
set_option linter.unusedSimpArgs false
namespace Go.Proofs.YtgecnlcbdbaneaaDoor
open Go.RowKit Go.Sw

section
variable {a b : List Nd} {s : Bd}
theorem sG_gd (Ha : Gd a) (Hb : Gd b) (sd : Bool) : Gd (sG a b sd):=by cases sd <;> assumption
theorem sI_r {q : Ky} (h : okK a.length b.length q) {sd : Bool} (hi : sI q sd ≠ -1) : inr (sG a b sd) (sI q sd):=by
 cases sd
 · exact h.kr hi
 · exact h.ir hi
theorem sI_k {q : Ky} (hb : badK a b q = false) {sd : Bool} (hi : sI q sd ≠ -1) : (gAt (sG a b sd) (sI q sd)).k = (nA a b q).k ∧ (gAt (sG a b sd) (sI q sd)).so = (nA a b q).so:=by
 cases sd
 · exact side_k hb hi
 · rw [nA_i hi];exact ⟨rfl,rfl⟩
theorem sI_num (q : Ky) (p u : Int) (sd : Bool) : sI (nxK a b q p p u) sd = goK (sG a b sd) (sI q sd) p:=by cases sd <;> rfl
theorem sI_lab (q : Ky) (l : ByteArray) (u : Int) (sd : Bool) : sI (nxK a b q (ixY a q.i l) (ixY b q.k l) u) sd = goK (sG a b sd) (sI q sd) (ixY (sG a b sd) (sI q sd) l):=by cases sd <;> rfl
theorem Bnd.sd {q : Ky} {c : List Nd} {v : Int} (B : Bnd a b q c v) {sd : Bool} (hi : sI q sd ≠ -1) : ∀ n,sub1 q.u n (obs (sG a b sd) n (sI q sd)) (obs c n v):=by
 cases sd
 · exact B.k hi
 · exact B.i hi
theorem lb_of {q : Ky} (hc : chB (nA a b q) = true) (hs : smK a b q = false) {sd : Bool} (hi : sI q sd ≠ -1) {l : ByteArray} (hl : l ∈ (gAt (sG a b sd) (sI q sd)).ls) : l ∈ lbK a b q:=by
 refine (lb_mem hc).2 (.inl ?_)
 rw [if_neg (by rw [hs];decide)]
 cases sd
 · exact .inr ⟨hi,hl⟩
 · exact .inl ⟨hi,hl⟩
theorem lb_less {q : Ky} (hq : okK a.length b.length q) (hc : chB (nA a b q) = true) (hl1 : lessK (nA a b q).k q.u = true) {sd : Bool} (hi : sI q sd ≠ -1) {l : ByteArray} (hl : l ∈ lbK a b q) : l ∈ (gAt (sG a b sd) (sI q sd)).ls:=by
 have hm:=(lb_mem hc).1 hl
 rcases hm with hm | hm
 rotate_left
 · exact absurd ⟨hm.1,hm.2.1⟩ hq.2.2.1
 by_cases hs : smK a b q = true
 · rw [if_pos hs] at hm
   cases sd
   · exact hm.2
   · exact hm.1
 · rw [if_neg hs] at hm
   have hnb : ¬ bothK q = true:=fun h=>hs (sm_iff.2 ⟨hc,h,hl1⟩)
   rw [both_iff] at hnb
   cases sd
   · rcases hm with hm | hm
     · exact absurd ⟨hm.1,hi⟩ hnb
     · exact hm.2
   · rcases hm with hm | hm
     · exact hm.2
     · exact absurd ⟨hi,hm.1⟩ hnb
theorem sm_of {q : Ky} (h : lessK (nA a b q).k q.u = false) : smK a b q = false:=by
 cases e : smK a b q with
 | false=>rfl
 | true=>rw [(sm_iff.1 e).2.2] at h;cases h
theorem sound (Ha : Gd a) (Hb : Gd b) (H : Full a b s) : ∀ (n j : Nat) (q : Ky),Cmp a b s j q → (strikeP s).getD j false = false → ∀ sd,sI q sd ≠ -1 → sub1 q.u n (obs (sG a b sd) n (sI q sd)) (obs (SG s (strikeP s)) n j)
 | 0,j,q,_,_,sd,_=>by unfold sub1;split <;> exact trivial
 | n + 1,j,q,h,hl,sd,hi=>by
  have hq:=H.ok h
  obtain ⟨hb, -⟩:=live_node H h hl
  have L:=left_node Ha Hb H h hl
  have hg:=sG_gd Ha Hb sd
  have hr:=sI_r hq hi
  have hk:=sI_k hb hi
  have ih:=fun (t : Int) (c : Ky) (hid : IdK s.ks c t) (hf : fAt (strikeP s) t = false) (hne : sI c sd ≠ -1)=>sound Ha Hb H n t.toNat c (H.at hid) hf sd hne
  have cast : ∀ t : Int,0 ≤ t → ((t.toNat : Nat) : Int) = t:=fun t ht=>by omega
  have num : ∀ (t : Int) (p u : Int),0 ≤ p → IdK s.ks (nxK a b q p p u) t → fAt (strikeP s) t = false → sub1 u n (obs (sG a b sd) n ((gAt (sG a b sd) (sI q sd)).to.getD p.toNat 0)) (obs (SG s (strikeP s)) n t):=fun t p u hp hid hf=>by
   have h1:=ih t _ hid hf (by rw [sI_num];exact go_some hg hr (by omega))
   rw [sI_num,goK_at hi hp,cast t hid.1] at h1
   exact h1
  refine (sub1_succ rfl rfl (hg.shN hr) L.sh hq.u n).2 ⟨hk.1.trans L.k.symm,hk.2.trans L.so.symm,fun e=>?_,fun e=>?_,fun e=>?_,fun e e2 l hm=>?_,fun e e2 l hm=>?_,fun e l hm hm2=>?_⟩
  · obtain ⟨t,h1,h2,h3⟩:=L.one (by rw [← hk.1];exact e)
    rw [h1]
    exact num t 0 q.u (by decide) h2 h3
  · obtain ⟨t,t',h1,h2,h3,h4,h5⟩:=L.four (by rw [← hk.1];exact e)
    rw [h1]
    exact ⟨num t 0 _ (by decide) h2 h4,num t' 1 q.u (by decide) h3 h5⟩
  · obtain ⟨t,t',h1,h2,h3,h4,h5⟩:=L.five (by rw [← hk.1];exact e)
    rw [h1]
    exact ⟨num t 0 _ (by decide) h2 h4,num t' 1 q.u (by decide) h3 h5⟩
  · rw [hk.1] at e e2
    have hc:=ch_iff.2 e
    exact lb_less hq hc e2 hi (L.lab hc l hm).1
  · rw [hk.1] at e e2
    have hc:=ch_iff.2 e
    exact L.all hc (sm_of e2) l (lb_of hc (sm_of e2) hi hm)
  · rw [hk.1] at e
    have hc:=ch_iff.2 e
    obtain ⟨-,h2,h3⟩:=L.lab hc l hm2
    have h1:=ih _ _ h2 h3 (by rw [sI_lab];exact go_some hg hr (ix_ne hi hm))
    rw [sI_lab,ixY_in hi hm,cast _ h2.1] at h1
    exact h1
theorem first_lab {x : Nd} (h : shN x) (hk : x.k = 6 ∨ x.k = 7) : 1 ≤ x.ls.length ∧ x.ls.length ≤ 6 ∧ x.ls.Pairwise ltB:=by
 have hl:=(h.lab hk).2
 refine ⟨?_,labels_len hl,labels_sort hl⟩
 unfold labelsB at hl
 by_cases e : x.ls.length < 1
 · rw [if_pos e] at hl;cases hl
 · omega
theorem bnd_fl {q : Ky} {c : List Nd} {v : Int} (B : Bnd a b q c v) (Ha : Gd a) (Hb : Gd b) (Hc : Gw c) (hq : okK a.length b.length q) (hv : inr c v) : flK a b q = false:=by
 unfold flK
 cases hc : chB (nA a b q) with
 | false=>rfl
 | true =>
  have hk:=ch_iff.1 hc
  have hz:=B.kind Ha Hb Hc hq hv
  have z:=first_lab (Hc.shN hv) (by rw [← hz.1];exact hk)
  have x:=first_lab (nA_sh Ha Hb hq) hk
  have key : 1 ≤ (lbK a b q).length ∧ (lbK a b q).length ≤ 6:=by
   cases hs : smK a b q with
   | true =>
    obtain ⟨l,hl⟩:=List.exists_mem_of_length_pos (show 0 < (gAt c v).ls.length by omega)
    have h1:=List.length_pos_of_mem (B.less Ha Hb Hc hq hv hs hl)
    refine ⟨by omega,?_⟩
    unfold lbK
    rw [if_pos hc,if_pos (sm_iff.1 hs).2.1,if_pos hs]
    exact Nat.le_trans (List.length_filter_le _ _) x.2.1
   | false =>
    by_cases hb : bothK q = true
    · have e : lbK a b q = uniL (nA a b q).ls (nB b q).ls:=by
       unfold lbK
       rw [if_pos hc,if_pos hb,if_neg (by rw [hs];decide)]
      have hless : lessK (nA a b q).k q.u = false:=by
       cases e2 : lessK (nA a b q).k q.u with
       | false=>rfl
       | true=>rw [sm_iff.2 ⟨hc,hb,e2⟩] at hs;cases hs
      have hsub : ∀ l ∈ lbK a b q,l ∈ (gAt c v).ls:=fun l hl=>B.more Ha Hb Hc hq hv hc hless hl
      have hnd : (lbK a b q).Nodup:=sort_nodup (lb_sort Ha Hb hq).1
      refine ⟨?_,Nat.le_trans (nodup_len _ _ hnd hsub) z.2.1⟩
      obtain ⟨l,hl⟩:=List.exists_mem_of_length_pos (show 0 < (nA a b q).ls.length by omega)
      have : l ∈ lbK a b q:=by rw [e,uni_mem];exact .inl hl
      exact List.length_pos_of_mem this
    · have e : lbK a b q = (nA a b q).ls:=by
       unfold lbK
       rw [if_pos hc,if_neg hb]
      rw [e]
      exact ⟨x.1,x.2.1⟩
  simp only [Bool.true_and,Bool.or_eq_false_iff,decide_eq_false_iff_not]
  omega
def HasB (a b : List Nd) (q : Ky) : Prop := ∃ (c : List Nd) (v : Int),Gw c ∧ inr c v ∧ Bnd a b q c v
theorem has_alone (Ha : Gd a) (Hb : Gd b) {q : Ky} (hq : okK a.length b.length q) (hn : ¬ bothK q = true) : HasB a b q:=by
 rw [both_iff] at hn
 by_cases hk : q.k = -1
 · exact ⟨a,q.i,Ha.w,hq.ir (fun e=>hq.2.2.1 ⟨e,hk⟩),bnd_alone a b hk⟩
 · have hi : q.i = -1:=Classical.byContradiction fun e=>hn ⟨e,hk⟩
   exact ⟨b,q.k,Hb.w,hq.kr hk,bnd_alone2 a b hi⟩
theorem getD_to {c : List Nd} (Hc : Gw c) {v : Int} (hv : inr c v) (p : Nat) : inr c ((gAt c v).to.getD p 0):=Hc.to hv p
theorem live_of (Ha : Gd a) (Hb : Gd b) (H : Full a b s) {j : Nat} {q : Ky} (h : Cmp a b s j q) (hB : HasB a b q) : (strikeP s).getD j false = false:=by
 cases e : (strikeP s).getD j false with
 | false=>rfl
 | true =>
  exfalso
  refine (strike_ok H.wf.l3).1.mn (fun j => ∀ q,Cmp a b s j q → ¬ HasB a b q) ?_ ?_ j e q h hB
  · rintro j hj q h ⟨c,v,Hc,hv,B⟩
    have hq:=H.ok h
    have hfl : s.fl.getD j false = (badK a b q || flK a b q):=by simp [List.getD,h.fl]
    rw [hfl,B.good Ha Hb Hc hq hv,bnd_fl B Ha Hb Hc hq hv] at hj
    cases hj
  · rintro j hj hr q h ⟨c,v,Hc,hv,B⟩
    have hq:=H.ok h
    have hb:=B.good Ha Hb Hc hq hv
    obtain ⟨to,t1,t2⟩:=h.ng hb
    have hto : toAt s j = to:=by simp [toAt,List.getD,t1]
    have hsm : s.sm.getD j false = smK a b q:=by simp [List.getD,h.sm,hb]
    unfold Rule at hr
    rw [hto,hsm] at hr
    have hsh:=nA_sh Ha Hb hq
    have no : ∀ (t : Int) (d : Ky),IdK s.ks d t → HasB a b d → (∀ q,Cmp a b s t.toNat q → ¬ HasB a b q) → False:=fun t d h1 h2 h3=>h3 d (H.at h1) h2
    cases hc : chB (nA a b q) with
    | false =>
     have hs : smK a b q = false:=by unfold smK;rw [hc];rfl
     rw [hs] at hr
     rcases hr with ⟨-,t,ht,hBt⟩ | ⟨hr, -⟩
     rotate_left
     · cases hr
     unfold chK at t2
     split at t2
     · rename_i hk
       obtain ⟨t',rfl,h1⟩:=all2_one t2
       rw [List.mem_singleton] at ht;subst ht
       exact no t _ h1 ⟨c,_,Hc,getD_to Hc hv _,B.one Ha Hb Hc hq hv hk⟩ hBt
     split at t2
     · rename_i hk
       obtain ⟨u,u',rfl,h1,h2⟩:=all2_two t2
       have B4:=B.four Ha Hb Hc hq hv hk
       rcases List.mem_cons.1 ht with rfl | ht
       · exact no t _ h1 ⟨c,_,Hc,getD_to Hc hv _,B4.1⟩ hBt
       · rw [List.mem_singleton] at ht;subst ht
         exact no t _ h2 ⟨c,_,Hc,getD_to Hc hv _,B4.2⟩ hBt
     split at t2
     · rename_i hk
       obtain ⟨u,u',rfl,h1,h2⟩:=all2_two t2
       have B5:=B.five Ha Hb Hc hq hv hk
       rcases List.mem_cons.1 ht with rfl | ht
       · exact no t _ h1 ⟨c,_,Hc,getD_to Hc hv _,B5.1⟩ hBt
       · rw [List.mem_singleton] at ht;subst ht
         exact no t _ h2 ⟨c,_,Hc,getD_to Hc hv _,B5.2⟩ hBt
     · rw [if_neg (by rw [hc];decide)] at t2
       cases t2
       cases ht
    | true =>
     have hk:=ch_iff.1 hc
     have hz:=B.kind Ha Hb Hc hq hv
     obtain ⟨l1,l2,l3⟩:=lab_ch hc t2
     rcases hr with ⟨hs,t,ht,hBt⟩ | ⟨hs,hne,hBt⟩
     · -- the label of t
       obtain ⟨p,hp,e⟩:=List.mem_iff_getElem.1 ht
       have hp1 : p < (lbK a b q).length:=by omega
       have hm : ((lbK a b q)[p],t) ∈ (lbK a b q).zip to:=List.mem_iff_getElem.2 ⟨p,by simp;omega,by rw [List.getElem_zip,e]⟩
       have hid:=l2 _ _ hm
       have hlm : (lbK a b q)[p] ∈ lbK a b q:=List.getElem_mem hp1
       by_cases hless : lessK (nA a b q).k q.u = false
       · have hl:=B.more Ha Hb Hc hq hv hc hless hlm
         refine no t _ hid ⟨c,atL (gAt c v) (lbK a b q)[p],Hc,?_,B.lab Ha Hb Hc hq hv hk hl⟩ hBt
         exact getD_to Hc hv _
       · have hnb : ¬ bothK q = true:=fun hb2=>by
          have:=sm_iff.2 ⟨hc,hb2,by simpa using hless⟩
          rw [hs] at this;cases this
         refine no t _ hid (has_alone Ha Hb (H.ok (H.at hid)) ?_) hBt
         rw [both_iff] at hnb ⊢
         rintro ⟨e1,e2⟩
         exact hnb ⟨(go_ne e1).1,(go_ne e2).1⟩
     · have z:=first_lab (Hc.shN hv) (by rw [← hz.1];exact hk)
       obtain ⟨l,hl⟩:=List.exists_mem_of_length_pos (show 0 < (gAt c v).ls.length by omega)
       have hlm:=B.less Ha Hb Hc hq hv hs hl
       obtain ⟨t,ht⟩:=l3 l hlm
       refine no t _ (l2 l t ht) ⟨c,atL (gAt c v) l,Hc,?_,B.lab Ha Hb Hc hq hv hk hl⟩ (hBt t (List.of_mem_zip ht).2)
       exact getD_to Hc hv _
theorem best (Ha : Gd a) (Hb : Gd b) (H : Full a b s) {c : List Nd} (Hc : Gw c) : ∀ (n j : Nat) (q : Ky) (v : Int),Cmp a b s j q → inr c v → Bnd a b q c v → sub1 q.u n (obs (SG s (strikeP s)) n j) (obs c n v)
 | 0,j,q,v,_,_,_=>by unfold sub1;split <;> exact trivial
 | n + 1, j, q,v,h,hv,B=>by
  have hq:=H.ok h
  have hl:=live_of Ha Hb H h ⟨c,v,Hc,hv,B⟩
  have L:=left_node Ha Hb H h hl
  have hz:=B.kind Ha Hb Hc hq hv
  have cast : ∀ t : Int,0 ≤ t → ((t.toNat : Nat) : Int) = t:=fun t ht=>by omega
  have ih:=fun (t : Int) (d : Ky) (w : Int) (hid : IdK s.ks d t) (hw : inr c w) (B' : Bnd a b d c w)=>by
   have:=best Ha Hb H Hc n t.toNat d w (H.at hid) hw B'
   rw [cast t hid.1] at this
   exact this
  refine (sub1_succ rfl rfl L.sh (Hc.shN hv) hq.u n).2 ⟨L.k.trans hz.1,L.so.trans hz.2,fun e=>?_,fun e=>?_,fun e=>?_,fun e e2 l hm=>?_,fun e e2 l hm=>?_,fun e l hm hm2=>?_⟩
  · rw [L.k] at e
    obtain ⟨t,h1,h2,h3⟩:=L.one e
    rw [h1]
    exact ih t (nxK a b q 0 0 q.u) _ h2 (getD_to Hc hv _) (B.one Ha Hb Hc hq hv e)
  · rw [L.k] at e
    obtain ⟨t,t',h1,h2,h3,h4,h5⟩:=L.four e
    have B4:=B.four Ha Hb Hc hq hv e
    rw [h1]
    exact ⟨ih t (nxK a b q 0 0 (1 - q.u)) _ h2 (getD_to Hc hv _) B4.1,ih t' (nxK a b q 1 1 q.u) _ h3 (getD_to Hc hv _) B4.2⟩
  · rw [L.k] at e
    obtain ⟨t,t',h1,h2,h3,h4,h5⟩:=L.five e
    have B5:=B.five Ha Hb Hc hq hv e
    rw [h1]
    exact ⟨ih t (nxK a b q 0 0 q.u) _ h2 (getD_to Hc hv _) B5.1,ih t' (nxK a b q 1 1 q.u) _ h3 (getD_to Hc hv _) B5.2⟩
  · rw [L.k] at e e2
    have hc:=ch_iff.2 e
    -- the label is one of the key's
    have hlm : l ∈ lbK a b q:=by
     cases hs : smK a b q with
     | true=>exact B.less Ha Hb Hc hq hv hs hm
     | false =>
      have hsd : ∃ sd,sI q sd ≠ -1:=by
       by_cases hi : q.i = -1
       · exact ⟨false,fun e=>hq.2.2.1 ⟨hi,e⟩⟩
       · exact ⟨true,hi⟩
      obtain ⟨sd,hi⟩:=hsd
      have hk:=sI_k (B.good Ha Hb Hc hq hv) hi
      have S:=(sub1_succ rfl rfl ((sG_gd Ha Hb sd).shN (sI_r hq hi)) (Hc.shN hv) hq.u 0).1 (B.sd hi 1)
      exact lb_of hc hs hi (S.less (by rw [hk.1];exact e) (by rw [hk.1];exact e2) l hm)
    obtain ⟨t,t1,t2⟩:=L.has hc l hlm
    refine t2 ?_
    exact live_of Ha Hb H (H.at t1) ⟨c,atL (gAt c v) l,Hc,getD_to Hc hv _,B.lab Ha Hb Hc hq hv e hm⟩
  · rw [L.k] at e e2
    have hc:=ch_iff.2 e
    exact B.more Ha Hb Hc hq hv hc e2 (L.lab hc l hm).1
  · rw [L.k] at e
    have hc:=ch_iff.2 e
    obtain ⟨h1,h2,h3⟩:=L.lab hc l hm
    exact ih _ (nxK a b q (ixY a q.i l) (ixY b q.k l) q.u) _ h2 (getD_to Hc hv _) (B.lab Ha Hb Hc hq hv e hm2)
end
end Go.Proofs.YtgecnlcbdbaneaaDoor
