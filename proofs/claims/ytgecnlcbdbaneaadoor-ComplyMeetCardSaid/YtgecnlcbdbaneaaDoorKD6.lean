/- What is left bounds both graphs; nothing bounds them better: plain. -/
import Derived.Test.YtgecnlcbdbaneaaDoorKD5
set_option linter.unusedVariables false
set_option linter.unusedSimpArgs false
namespace Go.Proofs.YtgecnlcbdbaneaaDoor
open Go.RowKit Go.Sw
open _root_.List renaming exists_mem_of_length_pos → za, getD → zb, mem_singleton → ze, length_pos_of_mem → zf

section
variable {a b : List Nd} {s : Bd}
theorem sG_gd (Ha : Gd a) (Hb : Gd b) (sd : Bool) : Gd (sG a b sd):=by cases sd <;> assumption
theorem sI_r {q : Ky} (h : okK a.length b.length q) {sd : Bool} (hi : sI q sd ≠ -1) : inr (sG a b sd) (sI q sd):=by
 cases sd
 · exact h.kr hi
 · exact h.ir hi
theorem sI_k {q : Ky} (hb : ve5 a b q = false) {sd : Bool} (hi : sI q sd ≠ -1) : (gAt (sG a b sd) (sI q sd)).k = (nA a b q).k ∧ (gAt (sG a b sd) (sI q sd)).so = (nA a b q).so:=by
 cases sd
 · exact va7 hb hi
 · rw [xc4 hi];exact ⟨rfl,rfl⟩
theorem yv9 (q : Ky) (p u : Int) (sd : Bool) : sI (nxK a b q p p u) sd = goK (sG a b sd) (sI q sd) p:=by cases sd <;> rfl
theorem yy9 (q : Ky) (l : ByteArray) (u : Int) (sd : Bool) : sI (nxK a b q (ixY a q.i l) (ixY b q.k l) u) sd = goK (sG a b sd) (sI q sd) (ixY (sG a b sd) (sI q sd) l):=by cases sd <;> rfl
theorem Bnd.sd {q : Ky} {c : List Nd} {v : Int} (B : Bnd a b q c v) {sd : Bool} (hi : sI q sd ≠ -1) : ∀ n,qw9 q.u n (obs (sG a b sd) n (sI q sd)) (obs c n v):=by
 cases sd
 · exact B.k hi
 · exact B.i hi
theorem lb_of {q : Ky} (hc : chB (nA a b q) = true) (hs : smK a b q = false) {sd : Bool} (hi : sI q sd ≠ -1) {l : ByteArray} (hl : l ∈ (gAt (sG a b sd) (sI q sd)).ls) : l ∈ lbK a b q:=by
 refine (xq2 hc).2 (.inl ?_)
 rw [if_neg (by rw [hs];decide)]
 cases sd
 · exact .inr ⟨hi,hl⟩
 · exact .inl ⟨hi,hl⟩
theorem lb_less {q : Ky} (hq : okK a.length b.length q) (hc : chB (nA a b q) = true) (hl1 : vo9 (nA a b q).k q.u = true) {sd : Bool} (hi : sI q sd ≠ -1) {l : ByteArray} (hl : l ∈ lbK a b q) : l ∈ (gAt (sG a b sd) (sI q sd)).ls:=by
 have hm:=(xq2 hc).1 hl
 rcases hm with hm | hm
 rotate_left
 · exact absurd ⟨hm.1,hm.2.1⟩ hq.2.2.1
 by_cases hs : smK a b q = true
 · rw [if_pos hs] at hm
   cases sd
   · exact hm.2
   · exact hm.1
 · rw [if_neg hs] at hm
   have hnb : ¬ ql9 q = true:=fun h=>hs (vf6.2 ⟨hc,h,hl1⟩)
   rw [qj3] at hnb
   cases sd
   · rcases hm with hm | hm
     · exact absurd ⟨hm.1,hi⟩ hnb
     · exact hm.2
   · rcases hm with hm | hm
     · exact hm.2
     · exact absurd ⟨hi,hm.1⟩ hnb
theorem sm_of {q : Ky} (h : vo9 (nA a b q).k q.u = false) : smK a b q = false:=by
 cases e : smK a b q with
 | false=>rfl
 | true=>rw [(vf6.1 e).2.2] at h;cases h
theorem sound (Ha : Gd a) (Hb : Gd b) (H : Full a b s) : ∀ (n j : Nat) (q : Ky),Cmp a b s j q → (qa7 s).getD j false = false → ∀ sd,sI q sd ≠ -1 → qw9 q.u n (obs (sG a b sd) n (sI q sd)) (obs (SG s (qa7 s)) n j)
 | 0,j,q,_,_,sd,_=>by unfold qw9;split <;> exact trivial
 | n + 1,j,q,h,hl,sd,hi=>by
  have hq:=H.ok h
  obtain ⟨hb, -⟩:=xc9 H h hl
  have L:=qt8 Ha Hb H h hl
  have hg:=sG_gd Ha Hb sd
  have hr:=sI_r hq hi
  have hk:=sI_k hb hi
  have ih:=fun (t : Int) (c : Ky) (hid : IdK s.ks c t) (hf : fAt (qa7 s) t = false) (hne : sI c sd ≠ -1)=>sound Ha Hb H n t.toNat c (H.at hid) hf sd hne
  have cast : ∀ t : Int,0 ≤ t → ((t.toNat : Nat) : Int) = t:=fun t ht=>by omega
  have num : ∀ (t : Int) (p u : Int),0 ≤ p → IdK s.ks (nxK a b q p p u) t → fAt (qa7 s) t = false → qw9 u n (obs (sG a b sd) n ((gAt (sG a b sd) (sI q sd)).to.getD p.toNat 0)) (obs (SG s (qa7 s)) n t):=fun t p u hp hid hf=>by
   have h1:=ih t _ hid hf (by rw [yv9];exact vw6 hg hr (by omega))
   rw [yv9,ya2 hi hp,cast t hid.1] at h1
   exact h1
  refine (qt5 rfl rfl (hg.shN hr) L.sh hq.u n).2 ⟨hk.1.trans L.k.symm,hk.2.trans L.so.symm,fun e=>?_,fun e=>?_,fun e=>?_,fun e e2 l hm=>?_,fun e e2 l hm=>?_,fun e l hm hm2=>?_⟩
  · obtain ⟨t,h1,h2,h3⟩:=L.one (by rw [← hk.1];exact e)
    rw [h1]
    exact num t 0 q.u (by decide) h2 h3
  · obtain ⟨t,t',h1,h2,h3,h4,h5⟩:=L.four (by rw [← hk.1];exact e)
    rw [h1]
    exact ⟨num t 0 _ (by decide) h2 h4,num t' 1 q.u (by decide) h3 h5⟩
  · obtain ⟨t,t',h1,h2,h3,h4,h5⟩:=L.five (by rw [← hk.1];exact e)
    rw [h1]
    exact ⟨num t 0 _ (by decide) h2 h4,num t' 1 q.u (by decide) h3 h5⟩
  · rw [hk.1] at e e2
    have hc:=qo5.2 e
    exact lb_less hq hc e2 hi (L.lab hc l hm).1
  · rw [hk.1] at e e2
    have hc:=qo5.2 e
    exact L.all hc (sm_of e2) l (lb_of hc (sm_of e2) hi hm)
  · rw [hk.1] at e
    have hc:=qo5.2 e
    obtain ⟨-,h2,h3⟩:=L.lab hc l hm2
    have h1:=ih _ _ h2 h3 (by rw [yy9];exact vw6 hg hr (ix_ne hi hm))
    rw [yy9,yk3 hi hm,cast _ h2.1] at h1
    exact h1
theorem vl1 {x : Nd} (h : shN x) (hk : x.k = 6 ∨ x.k = 7) : 1 ≤ x.ls.length ∧ x.ls.length ≤ 6 ∧ x.ls.Pairwise ltB:=by
 have hl:=(h.lab hk).2
 refine ⟨?_,ql6 hl,vm5 hl⟩
 unfold qh8 at hl
 by_cases e : x.ls.length < 1
 · rw [if_pos e] at hl;cases hl
 · omega
theorem bnd_fl {q : Ky} {c : List Nd} {v : Int} (B : Bnd a b q c v) (Ha : Gd a) (Hb : Gd b) (Hc : Gw c) (hq : okK a.length b.length q) (hv : inr c v) : flK a b q = false:=by
 unfold flK
 cases hc : chB (nA a b q) with
 | false=>rfl
 | true =>
  have hk:=qo5.1 hc
  have hz:=B.kind Ha Hb Hc hq hv
  have z:=vl1 (Hc.shN hv) (by rw [← hz.1];exact hk)
  have x:=vl1 (ye7 Ha Hb hq) hk
  have key : 1 ≤ (lbK a b q).length ∧ (lbK a b q).length ≤ 6:=by
   cases hs : smK a b q with
   | true =>
    obtain ⟨l,hl⟩:=za (show 0 < (gAt c v).ls.length by omega)
    have h1:=zf (B.less Ha Hb Hc hq hv hs hl)
    refine ⟨by omega,?_⟩
    unfold lbK
    rw [if_pos hc,if_pos (vf6.1 hs).2.1,if_pos hs]
    exact Nat.le_trans (List.length_filter_le _ _) x.2.1
   | false =>
    by_cases hb : ql9 q = true
    · have e : lbK a b q = ym6 (nA a b q).ls (nB b q).ls:=by
       unfold lbK
       rw [if_pos hc,if_pos hb,if_neg (by rw [hs];decide)]
      have hless : vo9 (nA a b q).k q.u = false:=by
       cases e2 : vo9 (nA a b q).k q.u with
       | false=>rfl
       | true=>rw [vf6.2 ⟨hc,hb,e2⟩] at hs;cases hs
      have hsub : ∀ l ∈ lbK a b q,l ∈ (gAt c v).ls:=fun l hl=>B.more Ha Hb Hc hq hv hc hless hl
      have hnd : (lbK a b q).Nodup:=vr3 (yc4 Ha Hb hq).1
      refine ⟨?_,Nat.le_trans (vl2 _ _ hnd hsub) z.2.1⟩
      obtain ⟨l,hl⟩:=za (show 0 < (nA a b q).ls.length by omega)
      have : l ∈ lbK a b q:=by rw [e,ya1];exact .inl hl
      exact zf this
    · have e : lbK a b q = (nA a b q).ls:=by
       unfold lbK
       rw [if_pos hc,if_neg hb]
      rw [e]
      exact ⟨x.1,x.2.1⟩
  simp only [Bool.true_and,Bool.or_eq_false_iff,decide_eq_false_iff_not]
  omega
def HasB (a b : List Nd) (q : Ky) : Prop := ∃ (c : List Nd) (v : Int),Gw c ∧ inr c v ∧ Bnd a b q c v
theorem yi0 (Ha : Gd a) (Hb : Gd b) {q : Ky} (hq : okK a.length b.length q) (hn : ¬ ql9 q = true) : HasB a b q:=by
 rw [qj3] at hn
 by_cases hk : q.k = -1
 · exact ⟨a,q.i,Ha.w,hq.ir (fun e=>hq.2.2.1 ⟨e,hk⟩),ym2 a b hk⟩
 · have hi : q.i = -1:=Classical.byContradiction fun e=>hn ⟨e,hk⟩
   exact ⟨b,q.k,Hb.w,hq.kr hk,xt9 a b hi⟩
theorem qk7 {c : List Nd} (Hc : Gw c) {v : Int} (hv : inr c v) (p : Nat) : inr c ((gAt c v).to.getD p 0):=Hc.to hv p
theorem xi4 (Ha : Gd a) (Hb : Gd b) (H : Full a b s) {j : Nat} {q : Ky} (h : Cmp a b s j q) (hB : HasB a b q) : (qa7 s).getD j false = false:=by
 cases e : (qa7 s).getD j false with
 | false=>rfl
 | true =>
  exfalso
  refine (vk5 H.wf.l3).1.mn (fun j => ∀ q,Cmp a b s j q → ¬ HasB a b q) ?_ ?_ j e q h hB
  · rintro j hj q h ⟨c,v,Hc,hv,B⟩
    have hq:=H.ok h
    have hfl : s.fl.getD j false = (ve5 a b q || flK a b q):=by simp [zb,h.fl]
    rw [hfl,B.good Ha Hb Hc hq hv,bnd_fl B Ha Hb Hc hq hv] at hj
    cases hj
  · rintro j hj hr q h ⟨c,v,Hc,hv,B⟩
    have hq:=H.ok h
    have hb:=B.good Ha Hb Hc hq hv
    obtain ⟨to,t1,t2⟩:=h.ng hb
    have hto : qj2 s j = to:=by simp [qj2,zb,t1]
    have hsm : s.sm.getD j false = smK a b q:=by simp [zb,h.sm,hb]
    unfold Rule at hr
    rw [hto,hsm] at hr
    have hsh:=ye7 Ha Hb hq
    have no : ∀ (t : Int) (d : Ky),IdK s.ks d t → HasB a b d → (∀ q,Cmp a b s t.toNat q → ¬ HasB a b q) → False:=fun t d h1 h2 h3=>h3 d (H.at h1) h2
    cases hc : chB (nA a b q) with
    | false =>
     have hs : smK a b q = false:=by unfold smK;rw [hc];rfl
     rw [hs] at hr
     rcases hr with ⟨-,t,ht,hBt⟩ | ⟨hr, -⟩
     rotate_left
     · cases hr
     unfold chK at t2
     split at t2
     · rename_i hk
       obtain ⟨t',rfl,h1⟩:=xl2 t2
       rw [ze] at ht;subst ht
       exact no t _ h1 ⟨c,_,Hc,qk7 Hc hv _,B.one Ha Hb Hc hq hv hk⟩ hBt
     split at t2
     · rename_i hk
       obtain ⟨u,u',rfl,h1,h2⟩:=vh2 t2
       have B4:=B.four Ha Hb Hc hq hv hk
       rcases List.mem_cons.1 ht with rfl | ht
       · exact no t _ h1 ⟨c,_,Hc,qk7 Hc hv _,B4.1⟩ hBt
       · rw [ze] at ht;subst ht
         exact no t _ h2 ⟨c,_,Hc,qk7 Hc hv _,B4.2⟩ hBt
     split at t2
     · rename_i hk
       obtain ⟨u,u',rfl,h1,h2⟩:=vh2 t2
       have B5:=B.five Ha Hb Hc hq hv hk
       rcases List.mem_cons.1 ht with rfl | ht
       · exact no t _ h1 ⟨c,_,Hc,qk7 Hc hv _,B5.1⟩ hBt
       · rw [ze] at ht;subst ht
         exact no t _ h2 ⟨c,_,Hc,qk7 Hc hv _,B5.2⟩ hBt
     · rw [if_neg (by rw [hc];decide)] at t2
       cases t2
       cases ht
    | true =>
     have hk:=qo5.1 hc
     have hz:=B.kind Ha Hb Hc hq hv
     obtain ⟨l1,l2,l3⟩:=yc0 hc t2
     rcases hr with ⟨hs,t,ht,hBt⟩ | ⟨hs,hne,hBt⟩
     · -- the label of t
       obtain ⟨p,hp,e⟩:=List.mem_iff_getElem.1 ht
       have hp1 : p < (lbK a b q).length:=by omega
       have hm : ((lbK a b q)[p],t) ∈ (lbK a b q).zip to:=List.mem_iff_getElem.2 ⟨p,by simp;omega,by rw [List.getElem_zip,e]⟩
       have hid:=l2 _ _ hm
       have hlm : (lbK a b q)[p] ∈ lbK a b q:=List.getElem_mem hp1
       by_cases hless : vo9 (nA a b q).k q.u = false
       · have hl:=B.more Ha Hb Hc hq hv hc hless hlm
         refine no t _ hid ⟨c,atL (gAt c v) (lbK a b q)[p],Hc,?_,B.lab Ha Hb Hc hq hv hk hl⟩ hBt
         exact qk7 Hc hv _
       · have hnb : ¬ ql9 q = true:=fun hb2=>by
          have:=vf6.2 ⟨hc,hb2,by simpa using hless⟩
          rw [hs] at this;cases this
         refine no t _ hid (yi0 Ha Hb (H.ok (H.at hid)) ?_) hBt
         rw [qj3] at hnb ⊢
         rintro ⟨e1,e2⟩
         exact hnb ⟨(xt8 e1).1,(xt8 e2).1⟩
     · have z:=vl1 (Hc.shN hv) (by rw [← hz.1];exact hk)
       obtain ⟨l,hl⟩:=za (show 0 < (gAt c v).ls.length by omega)
       have hlm:=B.less Ha Hb Hc hq hv hs hl
       obtain ⟨t,ht⟩:=l3 l hlm
       refine no t _ (l2 l t ht) ⟨c,atL (gAt c v) l,Hc,?_,B.lab Ha Hb Hc hq hv hk hl⟩ (hBt t (List.of_mem_zip ht).2)
       exact qk7 Hc hv _
theorem best (Ha : Gd a) (Hb : Gd b) (H : Full a b s) {c : List Nd} (Hc : Gw c) : ∀ (n j : Nat) (q : Ky) (v : Int),Cmp a b s j q → inr c v → Bnd a b q c v → qw9 q.u n (obs (SG s (qa7 s)) n j) (obs c n v)
 | 0,j,q,v,_,_,_=>by unfold qw9;split <;> exact trivial
 | n + 1, j, q,v,h,hv,B=>by
  have hq:=H.ok h
  have hl:=xi4 Ha Hb H h ⟨c,v,Hc,hv,B⟩
  have L:=qt8 Ha Hb H h hl
  have hz:=B.kind Ha Hb Hc hq hv
  have cast : ∀ t : Int,0 ≤ t → ((t.toNat : Nat) : Int) = t:=fun t ht=>by omega
  have ih:=fun (t : Int) (d : Ky) (w : Int) (hid : IdK s.ks d t) (hw : inr c w) (B' : Bnd a b d c w)=>by
   have:=best Ha Hb H Hc n t.toNat d w (H.at hid) hw B'
   rw [cast t hid.1] at this
   exact this
  refine (qt5 rfl rfl L.sh (Hc.shN hv) hq.u n).2 ⟨L.k.trans hz.1,L.so.trans hz.2,fun e=>?_,fun e=>?_,fun e=>?_,fun e e2 l hm=>?_,fun e e2 l hm=>?_,fun e l hm hm2=>?_⟩
  · rw [L.k] at e
    obtain ⟨t,h1,h2,h3⟩:=L.one e
    rw [h1]
    exact ih t (nxK a b q 0 0 q.u) _ h2 (qk7 Hc hv _) (B.one Ha Hb Hc hq hv e)
  · rw [L.k] at e
    obtain ⟨t,t',h1,h2,h3,h4,h5⟩:=L.four e
    have B4:=B.four Ha Hb Hc hq hv e
    rw [h1]
    exact ⟨ih t (nxK a b q 0 0 (1 - q.u)) _ h2 (qk7 Hc hv _) B4.1,ih t' (nxK a b q 1 1 q.u) _ h3 (qk7 Hc hv _) B4.2⟩
  · rw [L.k] at e
    obtain ⟨t,t',h1,h2,h3,h4,h5⟩:=L.five e
    have B5:=B.five Ha Hb Hc hq hv e
    rw [h1]
    exact ⟨ih t (nxK a b q 0 0 q.u) _ h2 (qk7 Hc hv _) B5.1,ih t' (nxK a b q 1 1 q.u) _ h3 (qk7 Hc hv _) B5.2⟩
  · rw [L.k] at e e2
    have hc:=qo5.2 e
    -- the label is one of the key's
    have hlm : l ∈ lbK a b q:=by
     cases hs : smK a b q with
     | true=>exact B.less Ha Hb Hc hq hv hs hm
     | false =>
      have hsd : ∃ sd,sI q sd ≠ -1:=by
       by_cases hi : q.i = -1
       · exact ⟨false,fun e=>hq.2.2.1 ⟨hi,e⟩⟩
       · exact ⟨true,hi⟩
      obtain ⟨sd,hi⟩:=hsd
      have hk:=sI_k (B.good Ha Hb Hc hq hv) hi
      have S:=(qt5 rfl rfl ((sG_gd Ha Hb sd).shN (sI_r hq hi)) (Hc.shN hv) hq.u 0).1 (B.sd hi 1)
      exact lb_of hc hs hi (S.less (by rw [hk.1];exact e) (by rw [hk.1];exact e2) l hm)
    obtain ⟨t,t1,t2⟩:=L.has hc l hlm
    refine t2 ?_
    exact xi4 Ha Hb H (H.at t1) ⟨c,atL (gAt c v) l,Hc,qk7 Hc hv _,B.lab Ha Hb Hc hq hv e hm⟩
  · rw [L.k] at e e2
    have hc:=qo5.2 e
    exact B.more Ha Hb Hc hq hv hc e2 (L.lab hc l hm).1
  · rw [L.k] at e
    have hc:=qo5.2 e
    obtain ⟨h1,h2,h3⟩:=L.lab hc l hm
    exact ih _ (nxK a b q (ixY a q.i l) (ixY b q.k l) q.u) _ h2 (qk7 Hc hv _) (B.lab Ha Hb Hc hq hv e hm2)
end
end Go.Proofs.YtgecnlcbdbaneaaDoor
/- below.bounded, all of it: plain. -/
namespace Go.Proofs.YtgecnlcbdbaneaaDoor
open Go.RowKit Go.Sw
open _root_.List renaming mem_of_getElem? → za, getElem?_eq_getElem → zb, mem_singleton → ze

def idC (n : Nat) : List Int:=(List.range n).map fun (i : Nat)=>(i : Int)
theorem yl0 {n : Nat} {k : Int} (h : 0 ≤ k ∧ k < (n : Int)) : cOf (idC n) k = k:=by
 unfold cOf idC
 rw [List.getD_eq_getElem?_getD,List.getElem?_map,List.getElem?_range (by omega)]
 simp only [Option.map_some,Option.getD_some]
 omega
def ve6 (s : Bd) (F : List Bool) : List Nd:=vs8 (SG s F) (idC s.ks.length) (s.ks.length + 1) 0 [0] []
theorem addO_in (cl ord : List Int) (k : Int) : ∀ v ∈ vd6 cl ord k,v ∈ ord ∨ v = k:=fun v hv=>by
 unfold vd6 at hv
 split at hv
 · exact .inl hv
 · rcases List.mem_append.1 hv with h | h
   · exact .inl h
   · exact .inr (by simpa using h)
theorem xk5 (cl : List Int) : ∀ (to ord : List Int), ∀ v ∈ (qv0 cl to ord).2,v ∈ ord ∨ v ∈ to
 | [],ord,v,h=>.inl h
 | k :: to,ord,v,h=>by
  simp only [qv0] at h
  rcases xk5 cl to _ v h with h | h
  · rcases addO_in cl ord k v h with h | h
    · exact .inl h
    · exact .inr (by simp [h])
  · exact .inr (by simp [h])
theorem xs1 {g : List Nd} {cl : List Int} {P : Int → Prop} (hP : ∀ v,P v → ∀ t ∈ (gAt g v).to,P t) : ∀ (f at' : Nat) (ord : List Int) (out : List Nd),(∀ v ∈ ord,P v) →
 (∀ x ∈ out, ∃ v,P v ∧ x.k = (gAt g v).k ∧ x.so = (gAt g v).so ∧ x.ls = (gAt g v).ls ∧ x.to.length = (gAt g v).to.length) →
 ∀ x ∈ vs8 g cl f at' ord out, ∃ v,P v ∧ x.k = (gAt g v).k ∧ x.so = (gAt g v).so ∧ x.ls = (gAt g v).ls ∧ x.to.length = (gAt g v).to.length
 | 0,_,_,_,_,ho=>ho
 | f + 1, at',ord,out,hv,ho=>by
  unfold vs8
  cases hx : ord[at']? with
  | none=>exact ho
  | some v =>
   cases hn : g[v.toNat]? with
   | none=>simp only [hn];exact ho
   | some n =>
    simp only [hn]
    have hpv:=hv v (za hx)
    have hg : gAt g v = n:=by simp [gAt,List.getD,hn]
    refine xs1 hP f (at' + 1) _ _ (fun w hw=>?_) (fun x hx=>?_)
    · rcases xk5 cl n.to ord w hw with h | h
      · exact hv w h
      · exact hP v hpv w (by rw [hg];exact h)
    · rcases List.mem_append.1 hx with hx | hx
      · exact ho x hx
      · rw [ze] at hx
        subst hx
        exact ⟨v,hpv,by rw [hg],by rw [hg],by rw [hg],by rw [hg,qv9]⟩
theorem shN.good {M : Nat} {z : Nd} (h : shN z) (hn : ∀ l ∈ z.ls,qe8 l = true) (hr : ∀ t ∈ z.to,0 ≤ t ∧ t < (M : Int)) : NdG M z:=by
 have h6 : z.ls.length ≤ 6 ∧ z.to.length ≤ 6 ∧ z.ls.length ≤ z.to.length:=by
  rcases h with ⟨-, -,e,e'⟩ | ⟨-, -,e,e'⟩ | ⟨-, -,e,e'⟩ | ⟨-, -,e,e'⟩
  · rw [e,e'];simp
  · rw [e,e'];simp
  · rw [e,e'];simp
  · have:=ql6 e
    omega
 refine ⟨⟨?_,?_,h6.1,fun l hl=>vp5 (hn l hl),h6.2.1,hr⟩,⟨fun hk=>h.one hk,fun hk=>(h.two hk).2,h6.2.2,h6.1⟩,hn⟩
 · rcases h with ⟨e, -⟩ | ⟨e, -⟩ | ⟨e, -⟩ | ⟨e, -⟩ <;> omega
 · rcases h with ⟨-,e, -⟩ | ⟨-,e, -⟩ | ⟨-,e, -⟩ | ⟨-,e, -⟩ <;> omega
section
variable {a b : List Nd} {s : Bd}
theorem SG_good (Ha : Gd a) (Hb : Gd b) (H : Full a b s) : ∀ n ∈ SG s (qa7 s),NdG (SG s (qa7 s)).length n:=by
 intro z hz
 obtain ⟨j,hj,rfl⟩:=List.mem_map.1 hz
 have hj:=List.mem_range.1 hj
 rw [yi2]
 cases hl : (qa7 s).getD j false with
 | true =>
  unfold sgN
  rw [if_pos hl]
  exact ⟨⟨by decide,by decide,by simp [n0],(fun l h=>by cases h),by simp [n0],fun t h=>by cases h⟩,⟨fun h=>by simp [n0] at h,fun h=>by simp [n0] at h,by simp [n0],by simp [n0]⟩,(fun l h=>by cases h)⟩
 | false =>
  obtain ⟨q,h⟩:=H.cm j hj
  have L:=qt8 Ha Hb H h hl
  rw [SG_at hj] at L
  exact L.sh.good L.nm fun t ht=>by have:=L.to t ht;omega
theorem xj1 (Ha : Gd a) (Hb : Gd b) (H : Full a b s) (h0 : 0 < s.ks.length) (hl : (qa7 s).getD 0 false = false) :
 0 < (ve6 s (qa7 s)).length ∧ (∀ n ∈ ve6 s (qa7 s),NdG (ve6 s (qa7 s)).length n) ∧ ShG (ve6 s (qa7 s)) ∧ ∀ n,obs (ve6 s (qa7 s)) n 0 = obs (SG s (qa7 s)) n 0:=by
 have hG:=SG_good Ha Hb H
 have hlen:=yi2 s (qa7 s)
 have ho : vo5 (idC s.ks.length) (SG s (qa7 s)).length [0]:=xh6 (by omega) _
 have hgood:=vm6 (cl:=idC s.ks.length) hG (s.ks.length + 1) 0 [0] [] ho rfl (by simp) (by omega) (fun n hn=>by cases hn)
 obtain ⟨o,o1,o2,o3,o4⟩:=qz9 (cl:=idC s.ks.length) hG (s.ks.length + 1) 0 [0] [] ho (by simp) rfl (by omega) (by intro p x v hp;simp at hp)
 have hinv:=xs1 (g:=SG s (qa7 s)) (cl:=idC s.ks.length) (P:=fun v=>0 ≤ v ∧ v.toNat < s.ks.length ∧ fAt (qa7 s) v = false) (fun v hv t ht=>by
  obtain ⟨v0,v1,v2⟩:=hv
  obtain ⟨q,h⟩:=H.cm v.toNat v1
  have L:=qt8 Ha Hb H h v2
  rw [show ((v.toNat : Nat) : Int) = v by omega] at L
  have:=L.to t ht
  exact ⟨this.2.1,this.2.2,this.1⟩) (s.ks.length + 1) 0 [0] [] (fun v hv=>by rw [ze] at hv;subst hv;exact ⟨by decide,h0,hl⟩) (fun x hx=>by cases hx)
 have hL : ve6 s (qa7 s) = vs8 (SG s (qa7 s)) (idC s.ks.length) (s.ks.length + 1) 0 [0] []:=rfl
 rw [← hL] at hgood o2 o4 hinv
 refine ⟨by have:=hgood.1;simp at this;omega,hgood.2.2,fun x hx=>?_,?_⟩
 · obtain ⟨v,⟨v0,v1,v2⟩,e1,e2,e3,e4⟩:=hinv x hx
   obtain ⟨q,h⟩:=H.cm v.toNat v1
   have L:=qt8 Ha Hb H h v2
   rw [show ((v.toNat : Nat) : Int) = v by omega] at L
   rw [e1,e2,e3,e4]
   exact L.sh
 · have key : ∀ (n p : Nat) (v : Int),o[p]? = some v → obs (ve6 s (qa7 s)) n p = obs (SG s (qa7 s)) n v:=fun n=>by
    induction n with
    | zero=>intro p v _;rfl
    | succ n ih =>
     intro p v hv
     have hlt:=(List.getElem?_eq_some_iff.1 hv).1
     obtain ⟨x,hx⟩ : ∃ x,(ve6 s (qa7 s))[p]? = some x:=⟨_,zb (by omega)⟩
     obtain ⟨e1,e2,e3,e4,e5⟩:=o4 p x v hx hv
     have hvr:=o1.r v (za hv)
     have hgm:=hG _ (qd0 hvr.1 hvr.2)
     rw [obs,obs,qx3 hx,e1,e2,e3]
     congr 1
     apply List.ext_getElem
     · simp [e4]
     · intro i h1 h2
       simp only [List.length_map] at h1 h2
       simp only [List.getElem_map]
       obtain ⟨t0,w,hw,hcw⟩:=e5 i _ _ (zb h1) (zb h2)
       have hwr:=o1.r w (za hw)
       have hur:=hgm.ok.r _ (List.getElem_mem h2)
       rw [yl0 (by rw [← hlen];exact hwr),yl0 (by rw [← hlen];exact hur)] at hcw
       have:=ih _ w hw
       rw [show (((x.to[i]).toNat : Nat) : Int) = x.to[i] by omega] at this
       rw [this,hcw]
   intro n
   have:=key n 0 0 (by rw [o3 0 (by simp)];rfl)
   exact this
end
def bdF (a b : List Nd) : Nat:=(a.length + 1) * (b.length + 1) * 2 + 1
def bdS (a b : List Nd) (u : Int) : Bd:=(qy8 a b (bdF a b) ⟨0,0,u⟩ ⟨[],[],[],[]⟩).2
def bdL (a b : List Nd) (u : Int) : List Nd:=ve6 (bdS a b u) (qa7 (bdS a b u))
def vd7 (a b : List Nd) (u : Int) : Int:=if (qa7 (bdS a b u)).getD 0 false = true then 8 else if 200 < (bdL a b u).length then 2 else 0
def vp4 (a b : List Nd) (u : Int) : List Nd:=if vd7 a b u = 0 then qk0 (bdL a b u) else []
theorem xi6 {a b : List Nd} (Ha : Gd a) (Hb : Gd b) {u : Int} (hu : u = 0 ∨ u = 1) : Full a b (bdS a b u) ∧ 0 < (bdS a b u).ks.length ∧ Cmp a b (bdS a b u) 0 ⟨0,0,u⟩:=by
 have ha:=Ha.pos
 have hb:=Hb.pos
 have hok : okK a.length b.length ⟨0,0,u⟩:=⟨.inr ⟨Int.le_refl _,by simp only;omega⟩,.inr ⟨Int.le_refl _,by simp only;omega⟩,(fun h=>absurd h.1 (show (0 : Int) ≠ -1 by decide)),hu⟩
 have h:=vg2 (xf9 Ha Hb) (bdF a b) ⟨0,0,u⟩ ⟨[],[],[],[]⟩ ⟨rfl,rfl,rfl,List.nodup_nil,fun q hq=>by cases hq⟩ hok (by simp [bdF])
 have hid:=h.id
 have e : (qy8 a b (bdF a b) ⟨0,0,u⟩ ⟨[],[],[],[]⟩).1 = 0:=by
  unfold bdF qy8
  simp only [xl5]
  split <;> rfl
 rw [e] at hid
 have hF : Full a b (bdS a b u):=⟨h.wf,fun j hj=>h.cm j (Nat.zero_le _) hj⟩
 exact ⟨hF,(id_lt hid).2,hF.at hid⟩
theorem vu6 {a b : List Nd} (Ha : Gd a) (Hb : Gd b) {u : Int} (hu : u = 0 ∨ u = 1) (he : vd7 a b u = 0) : Gd (bdL a b u) ∧ vp4 a b u = qk0 (bdL a b u) ∧ Gd (vp4 a b u) ∧
 (∀ n,qw9 u n (obs a n 0) (obs (vp4 a b u) n 0)) ∧ ∀ n,qw9 u n (obs b n 0) (obs (vp4 a b u) n 0):=by
 obtain ⟨H,h0,hc⟩:=xi6 Ha Hb hu
 have hE:=he
 unfold vd7 at hE
 have hl : (qa7 (bdS a b u)).getD 0 false = false:=by
  cases e : (qa7 (bdS a b u)).getD 0 false with
  | false=>rfl
  | true=>rw [if_pos e] at hE;cases hE
 rw [if_neg (by rw [hl];decide)] at hE
 have h200 : (bdL a b u).length ≤ 200:=by
  rcases Nat.lt_or_ge 200 (bdL a b u).length with h | h
  · rw [if_pos h] at hE;cases hE
  · exact h
 obtain ⟨l1,l2,l3,l4⟩:=xj1 Ha Hb H h0 hl
 have hG : Gd (bdL a b u):=⟨l1,h200,l2,l3⟩
 have e : vp4 a b u = qk0 (bdL a b u):=by unfold vp4;rw [if_pos he]
 have hg:=vf2 hG.pos hG.ok
 have hob : ∀ n,obs (vp4 a b u) n 0 = obs (SG (bdS a b u) (qa7 (bdS a b u))) n 0:=fun n=>by
  rw [e,vb6 hG.ok hG.pos];exact l4 n
 have hs:=fun n sd (hi : sI ⟨0,0,u⟩ sd ≠ -1)=>sound Ha Hb H n 0 ⟨0,0,u⟩ hc hl sd hi
 refine ⟨hG,e,by rw [e];exact ⟨hg.1,Nat.le_trans hg.2.1 h200,hg.2.2,vt4 hG.ok hG.pos hG.sh⟩,fun n=>?_,fun n=>?_⟩
 · rw [hob];exact hs n true (show (0 : Int) ≠ -1 by decide)
 · rw [hob];exact hs n false (show (0 : Int) ≠ -1 by decide)
theorem yu6 {a b c : List Nd} (Ha : Gd a) (Hb : Gd b) (Hc : Gw c) {u v : Int} (hu : u = 0 ∨ u = 1) (hv : inr c v) (h1 : ∀ n,qw9 u n (obs a n 0) (obs c n v)) (h2 : ∀ n,qw9 u n (obs b n 0) (obs c n v)) :
 vd7 a b u ≠ 8 ∧ (vd7 a b u = 0 → ∀ n,qw9 u n (obs (vp4 a b u) n 0) (obs c n v)):=by
 obtain ⟨H,h0,hc⟩:=xi6 Ha Hb hu
 have B : Bnd a b ⟨0,0,u⟩ c v:=⟨fun _=>h1,fun _=>h2⟩
 have hl:=xi4 Ha Hb H hc ⟨c,v,Hc,hv,B⟩
 refine ⟨fun e=>?_,fun he n=>?_⟩
 · unfold vd7 at e
   rw [if_neg (by rw [hl];decide)] at e
   split at e <;> cases e
 · obtain ⟨hG,e, -⟩:=vu6 Ha Hb hu he
   obtain ⟨l1,l2,l3,l4⟩:=xj1 Ha Hb H h0 hl
   rw [e,vb6 hG.ok hG.pos]
   show qw9 u n (obs (ve6 _ _) n 0) _
   rw [l4 n]
   exact best Ha Hb H Hc n 0 ⟨0,0,u⟩ v hc hv B
end Go.Proofs.YtgecnlcbdbaneaaDoor
