/- Join and Meet are the same both ways; of one with itself they are it; the Join of one and a Meet with it is the one: plain. -/
import Derived.Test.YtgecnlcbdbaneaaDoorKB3
set_option linter.unusedVariables false
set_option linter.unusedSimpArgs false
namespace Go.Proofs.YtgecnlcbdbaneaaDoor
open Go.RowKit Go.Sw

def swK (q : Ky) : Ky:=⟨q.k,q.i,q.u⟩
def swB (s : Bd) : Bd:=⟨s.ks.map swK,s.ns,s.sm,s.fl⟩
theorem swK_inj {p q : Ky} (h : swK p = swK q) : p = q:=by
 obtain ⟨a,b,c⟩:=p
 obtain ⟨a',b',c'⟩:=q
 simp only [swK,Ky.mk.injEq] at h ⊢
 exact ⟨h.2.1,h.1,h.2.2⟩
theorem pos_sw (q : Ky) : ∀ (l : List Ky) (n : Nat),posK (swK q) (l.map swK) n = posK q l n
 | [],_=>rfl
 | c :: l,n=>by
  simp only [List.map_cons,posK]
  by_cases h : q = c
  · rw [if_pos h,if_pos (by rw [h])]
  · rw [if_neg h,if_neg (fun e=>h (swK_inj e)),pos_sw q l]
theorem ok_sw {n m : Nat} {q : Ky} (h : okK n m q) : okK m n (swK q):=⟨h.2.1,h.1,fun e=>h.2.2.1 ⟨e.2,e.1⟩,h.2.2.2⟩
theorem both_sw (q : Ky) : bothK (swK q) = bothK q:=by
 unfold bothK swK
 exact Bool.and_comm _ _
section
variable {a b : List Nd} {q : Ky}
theorem bad_sw : badK b a (swK q) = badK a b q:=by
 unfold badK
 rw [both_sw]
 cases hb : bothK q with
 | false=>rfl
 | true =>
  obtain ⟨h1,h2⟩:=both_iff.1 hb
  have h3 : (swK q).i ≠ -1:=h2
  rw [nA_i h1,nA_i h3]
  have e1 : decide ((gAt b q.k).k = (gAt a q.i).k) = decide ((gAt a q.i).k = (gAt b q.k).k):=decide_eq_decide.2 eq_comm
  have e2 : decide ((gAt b q.k).so = (gAt a q.i).so) = decide ((gAt a q.i).so = (gAt b q.k).so):=decide_eq_decide.2 eq_comm
  show (true && !(decide ((gAt b q.k).k = (gAt a q.i).k) && decide ((gAt b q.k).so = (gAt a q.i).so))) = _
  rw [e1,e2]
  rfl
theorem nA_sw (h : okK a.length b.length q) (hb : badK a b q = false) : (nA b a (swK q)).k = (nA a b q).k ∧ (nA b a (swK q)).so = (nA a b q).so:=by
 by_cases hi : q.i = -1
 · have hk : (swK q).i ≠ -1:=fun e=>h.2.2.1 ⟨hi,e⟩
   rw [nA_k hi,nA_i hk]
   exact ⟨rfl,rfl⟩
 · by_cases hk : q.k = -1
   · have hk' : (swK q).i = -1:=hk
     rw [nA_i hi,nA_k hk']
     exact ⟨rfl,rfl⟩
   · have hk' : (swK q).i ≠ -1:=hk
     rw [nA_i hk']
     exact side_k hb hk
theorem chB_sw (h : okK a.length b.length q) (hb : badK a b q = false) : chB (nA b a (swK q)) = chB (nA a b q):=by
 unfold chB
 rw [(nA_sw h hb).1]
theorem sm_sw (h : okK a.length b.length q) (hb : badK a b q = false) : smK b a (swK q) = smK a b q:=by
 unfold smK
 rw [chB_sw h hb,both_sw,(nA_sw h hb).1]
 rfl
theorem lb_sw (Ha : Gd a) (Hb : Gd b) (h : okK a.length b.length q) (hb : badK a b q = false) : lbK b a (swK q) = lbK a b q:=by
 have hcc:=chB_sw h hb
 cases hc : chB (nA a b q) with
 | false=>rw [lb_none hc,lb_none (hcc.trans hc)]
 | true =>
  have key : ∀ l,l ∈ lbK b a (swK q) ↔ l ∈ lbK a b q:=fun l=>by
   rw [lb_mem hc,lb_mem (hcc.trans hc),sm_sw h hb]
   have e1 : (swK q).i = q.k:=rfl
   have e2 : (swK q).k = q.i:=rfl
   rw [e1,e2]
   by_cases hs : smK a b q = true
   · rw [if_pos hs,if_pos hs]
     obtain ⟨-,h2, -⟩:=sm_iff.1 hs
     obtain ⟨h3,h4⟩:=both_iff.1 h2
     exact ⟨fun k=>k.elim (fun k=>.inl ⟨k.2,k.1⟩) fun k=>absurd k.1 h4,fun k=>k.elim (fun k=>.inl ⟨k.2,k.1⟩) fun k=>absurd k.1 h3⟩
   · rw [if_neg hs,if_neg hs]
     exact ⟨fun k=>k.elim (fun k=>.inl k.symm) fun k=>absurd ⟨k.2.1,k.1⟩ h.2.2.1,fun k=>k.elim (fun k=>.inl k.symm) fun k=>absurd ⟨k.1,k.2.1⟩ h.2.2.1⟩
  exact sort_ext (lb_sort Hb Ha (ok_sw h)).1 (lb_sort Ha Hb h).1 (fun l hl=>(key l).1 hl) fun l hl=>(key l).2 hl
theorem ch_sw (Ha : Gd a) (Hb : Gd b) (h : okK a.length b.length q) (hb : badK a b q = false) : chK b a (swK q) = (chK a b q).map swK:=by
 unfold chK
 rw [(nA_sw h hb).1,chB_sw h hb,lb_sw Ha Hb h hb]
 split
 · rfl
 split
 · rfl
 split
 · rfl
 split
 · rw [List.map_map];rfl
 · rfl
theorem fl_sw (Ha : Gd a) (Hb : Gd b) (h : okK a.length b.length q) (hb : badK a b q = false) : flK b a (swK q) = flK a b q:=by
 unfold flK
 rw [chB_sw h hb,lb_sw Ha Hb h hb]
end
theorem push_sw (s : Bd) (q : Ky) (m e : Bool) : pushK (swB s) (swK q) m e = swB (pushK s q m e):=by
 unfold pushK swB
 simp
theorem addsB_sw {f g : Ky → Bd → Int × Bd} : ∀ (cs : List Ky) (s : Bd),(∀ c ∈ cs, ∀ s,g (swK c) (swB s) = ((f c s).1,swB (f c s).2)) → addKs g (cs.map swK) (swB s) = ((addKs f cs s).1,swB (addKs f cs s).2)
 | [],s,_=>rfl
 | c :: cs,s,h=>by
  have h1:=h c (by simp) s
  have ih:=addsB_sw cs (f c s).2 fun d hd=>h d (by simp [hd])
  simp only [List.map_cons,addKs,h1,ih]
theorem add_sw {a b : List Nd} (Ha : Gd a) (Hb : Gd b) : ∀ (f : Nat) (q : Ky) (s : Bd),okK a.length b.length q → addB b a f (swK q) (swB s) = ((addB a b f q s).1,swB (addB a b f q s).2)
 | 0,q,s,_=>rfl
 | f + 1,q,s,h=>by
  unfold addB
  have e1 : posK (swK q) (swB s).ks 0 = posK q s.ks 0:=pos_sw q s.ks 0
  rw [e1,bad_sw]
  have e2 : (swB s).ks.length = s.ks.length:=by unfold swB;simp
  cases posK q s.ks 0 with
  | some n=>rfl
  | none =>
   simp only
   cases hb : badK a b q with
   | true =>
    rw [if_pos rfl,if_pos rfl,push_sw,e2]
   | false =>
    rw [if_neg (by decide),if_neg (by decide),ch_sw Ha Hb h hb,sm_sw h hb,push_sw,e2]
    rw [addsB_sw (f:=addB a b f) (chK a b q) _ fun c hc s=>add_sw Ha Hb f c s (ch_ok Ha Hb q h hb c hc)]
    unfold shutK
    rw [(nA_sw h hb).1,(nA_sw h hb).2,lb_sw Ha Hb h hb,fl_sw Ha Hb h hb]
    rfl
theorem bdS_sw {a b : List Nd} (Ha : Gd a) (Hb : Gd b) {u : Int} (hu : u = 0 ∨ u = 1) : bdS b a u = swB (bdS a b u):=by
 have ha:=Ha.pos
 have hb:=Hb.pos
 have hok : okK a.length b.length ⟨0,0,u⟩:=⟨.inr ⟨Int.le_refl _,by simp only;omega⟩,.inr ⟨Int.le_refl _,by simp only;omega⟩,(fun h=>absurd h.1 (show (0 : Int) ≠ -1 by decide)),hu⟩
 have h:=add_sw Ha Hb (bdF a b) ⟨0,0,u⟩ ⟨[],[],[],[]⟩ hok
 have e : bdF b a = bdF a b:=by unfold bdF;rw [Nat.mul_comm (b.length + 1)]
 unfold bdS
 rw [e]
 exact congrArg Prod.snd h
theorem strF_sw (s : Bd) : ∀ (f : Nat) (F : List Bool),strF (swB s) f F = strF s f F:=by
 have hR : ∀ F,strR (swB s) F = strR s F:=fun F=>by
  show (List.range (s.ks.map swK).length).foldl (strN s) F = _
  rw [List.length_map]
  rfl
 intro f
 induction f with
 | zero=>intro F;rfl
 | succ f ih =>
  intro F
  simp only [strF,hR,ih]
theorem strike_sw (s : Bd) : strikeP (swB s) = strikeP s:=by
 have e2 : (swB s).ks.length = s.ks.length:=by unfold swB;simp
 unfold strikeP
 rw [strF_sw,e2]
 rfl
theorem left_sw (s : Bd) (F : List Bool) : leftP (swB s) F = leftP s F:=by
 have e2 : (swB s).ks.length = s.ks.length:=by unfold swB;simp
 have e3 : SG (swB s) F = SG s F:=by
  show (List.range (swB s).ks.length).map (sgN s F) = _
  rw [e2]
  rfl
 unfold leftP
 rw [e2,e3]
theorem bdL_sw {a b : List Nd} (Ha : Gd a) (Hb : Gd b) {u : Int} (hu : u = 0 ∨ u = 1) : bdL b a u = bdL a b u:=by
 unfold bdL
 rw [bdS_sw Ha Hb hu,strike_sw,left_sw]
theorem bnd_sw {a b : List Nd} (Ha : Gd a) (Hb : Gd b) {u : Int} (hu : u = 0 ∨ u = 1) : bndE b a u = bndE a b u ∧ bndG b a u = bndG a b u:=by
 have h1 : bndE b a u = bndE a b u:=by
  unfold bndE
  rw [bdL_sw Ha Hb hu,bdS_sw Ha Hb hu,strike_sw]
 refine ⟨h1,?_⟩
 unfold bndG
 rw [h1,bdL_sw Ha Hb hu]
def Dg (s : Bd) : Prop := ∀ q ∈ s.ks,q.i = q.k
theorem ch_dg {a : List Nd} {q c : Ky} (h : q.i = q.k) (hc : c ∈ chK a a q) : c.i = c.k:=by
 have key : ∀ p u,(nxK a a q p p u).i = (nxK a a q p p u).k:=fun p u=>by
  show goK a q.i p = goK a q.k p
  rw [h]
 unfold chK at hc
 split at hc
 · rw [List.mem_singleton] at hc;subst hc;exact key _ _
 split at hc
 · rcases List.mem_cons.1 hc with rfl | hc
   · exact key _ _
   · rw [List.mem_singleton] at hc;subst hc;exact key _ _
 split at hc
 · rcases List.mem_cons.1 hc with rfl | hc
   · exact key _ _
   · rw [List.mem_singleton] at hc;subst hc;exact key _ _
 split at hc
 · obtain ⟨l, -,rfl⟩:=List.mem_map.1 hc
   show goK a q.i (ixY a q.i l) = goK a q.k (ixY a q.k l)
   rw [h]
 · cases hc
theorem adds_dg {f : Ky → Bd → Int × Bd} : ∀ (cs : List Ky) (s : Bd),(∀ c ∈ cs, ∀ s,Dg s → Dg (f c s).2) → Dg s → Dg (addKs f cs s).2
 | [],s,_,h=>h
 | c :: cs,s,hf,h=>adds_dg cs (f c s).2 (fun d hd=>hf d (by simp [hd])) (hf c (by simp) s h)
theorem add_dg {a : List Nd} : ∀ (f : Nat) (q : Ky) (s : Bd),q.i = q.k → Dg s → Dg (addB a a f q s).2
 | 0,q,s,_,h=>h
 | f + 1,q,s,hq,h=>by
  have hp : ∀ m e,Dg (pushK s q m e):=fun m e c hc=>by
   rcases List.mem_append.1 hc with hc | hc
   · exact h c hc
   · rw [List.mem_singleton] at hc;subst hc;exact hq
  unfold addB
  split
  · exact h
  · split
    · exact hp _ _
    · exact adds_dg (chK a a q) _ (fun c hc s hs=>add_dg f c s (ch_dg hq hc) hs) (hp _ _)
def dgN (q : Ky) : Nat:=q.i.toNat * 2 + q.u.toNat
theorem dg_len {n : Nat} {l : List Ky} (hd : l.Nodup) (h : ∀ q ∈ l,okK n n q) (hg : ∀ q ∈ l,q.i = q.k) : l.length ≤ n * 2:=by
 have hi : ∀ q ∈ l,0 ≤ q.i ∧ q.i < (n : Int):=fun q hq=>by
  have h1:=h q hq
  have h2:=hg q hq
  exact h1.1.resolve_left fun e=>h1.2.2.1 ⟨e,by rw [← h2];exact e⟩
 have hu : ∀ q ∈ l,q.u = 0 ∨ q.u = 1:=fun q hq=>(h q hq).2.2.2
 have hnd : (l.map dgN).Nodup:=by
  refine List.Pairwise.map dgN (R:=fun x y=>x ≠ y ∧ x ∈ l ∧ y ∈ l) (fun x y hxy e=>hxy.1 ?_) (hd.imp_of_mem fun hx hy hne=>⟨hne,hx,hy⟩)
  obtain ⟨hne,hx,hy⟩:=hxy
  have x1:=hi x hx
  have y1:=hi y hy
  have x2:=hu x hx
  have y2:=hu y hy
  have x3:=hg x hx
  have y3:=hg y hy
  unfold dgN at e
  obtain ⟨xi,xk,xu⟩:=x
  obtain ⟨yi,yk,yu⟩:=y
  simp only at *
  subst x3
  subst y3
  have : xi = yi:=by omega
  have : xu = yu:=by omega
  simp_all
 have hsub : ∀ x ∈ l.map dgN,x ∈ List.range (n * 2):=fun x hx=>by
  obtain ⟨q,hq,rfl⟩:=List.mem_map.1 hx
  have h1:=hi q hq
  have h2:=hu q hq
  rw [List.mem_range]
  unfold dgN
  omega
 have:=nodup_len _ _ hnd hsub
 simpa using this
theorem bdL_len {a b : List Nd} (Ha : Gd a) (Hb : Gd b) {u : Int} (hu : u = 0 ∨ u = 1) : (bdL a b u).length ≤ (bdS a b u).ks.length:=by
 obtain ⟨H,h0, -⟩:=bd_full Ha Hb hu
 have hlen:=SG_len (bdS a b u) (strikeP (bdS a b u))
 have ho : OrdI (idC (bdS a b u).ks.length) (SG (bdS a b u) (strikeP (bdS a b u))).length [0]:=ord_one (by omega) _
 have hgood:=lstF_good (cl:=idC (bdS a b u).ks.length) (SG_good Ha Hb H) ((bdS a b u).ks.length + 1) 0 [0] [] ho rfl (by simp) (by omega) (fun n hn=>by cases hn)
 have:=hgood.2.1
 rw [hlen] at this
 exact this
theorem self_len {a : List Nd} (Ha : Gd a) {u : Int} (hu : u = 0 ∨ u = 1) : (bdL a a u).length ≤ a.length * 2:=by
 obtain ⟨H,h0, -⟩:=bd_full Ha Ha hu
 exact Nat.le_trans (bdL_len Ha Ha hu) (dg_len H.wf.nd H.wf.ok (add_dg (bdF a a) ⟨0,0,u⟩ ⟨[],[],[],[]⟩ rfl fun q hq=>by cases hq))
theorem sub1_anti {u : Int} (hu : u = 0 ∨ u = 1) {n : Nat} {s t : Tr} (hs : wfT n s) (ht : wfT n t) (h1 : sub1 u n s t) (h2 : sub1 u n t s) : s = t:=by
 rcases hu with rfl | rfl
 · exact sub_anti n _ _ hs ht (sub1_zero.1 h2) (sub1_zero.1 h1)
 · exact sub_anti n _ _ hs ht (sub1_one.1 h1) (sub1_one.1 h2)
theorem sub1_refl (u : Int) (n : Nat) (s : Tr) : sub1 u n s s:=by
 unfold sub1
 split <;> exact sub_refl n s
theorem sub1_flip {u : Int} (hu : u = 0 ∨ u = 1) {n : Nat} {s t : Tr} : sub1 (1 - u) n s t ↔ sub1 u n t s:=by
 rcases hu with rfl | rfl
 · rw [show (1 : Int) - 0 = 1 by decide,sub1_one,sub1_zero]
 · rw [show (1 : Int) - 1 = 0 by decide,sub1_one,sub1_zero]
theorem bnd_is {x : Tp} (hx : tCheck x = 0) {b : List Nd} (Hb : Gd b) {u : Int} (hu : u = 0 ∨ u = 1) (he : bndE (ofP x) b u = 0) (hb : ∀ n,sub1 u n (obs b n 0) (obs (ofP x) n 0)) : bndG (ofP x) b u = ofP x:=by
 have Ha:=ofP_gd hx
 obtain ⟨HL,e2,HG,k1,k2⟩:=bnd_both Ha Hb hu he
 have k3:=(bnd_best Ha Hb Ha.w hu Ha.w.in0 (fun n=>sub1_refl u n _) hb).2 he
 have ho : ∀ n,obs (bndG (ofP x) b u) n 0 = obs (ofP x) n 0:=fun n=>sub1_anti hu (HG.w.wf0 n) (Ha.w.wf0 n) (k3 n) (k1 n)
 have hr:=raw_good hx
 have hofP : ofP x = leastP (rawP x):=by unfold ofP;rw [if_pos hx]
 rw [e2]
 conv=>rhs;rw [hofP]
 have hro : ∀ n,obs (ofP x) n 0 = obs (rawP x) n 0:=fun n=>by
  rw [hofP]
  exact least_obs hr.2.2.2.2.2 hr.2.2.2.1 n
 refine (least_iff HL.ok HL.pos hr.2.2.2.2.2 hr.2.2.2.1).2 fun n=>?_
 have h1:=ho n
 rw [e2,least_obs HL.ok HL.pos] at h1
 exact h1.trans (hro n)
theorem self_bnd {x : Tp} (hx : tCheck x = 0) {u : Int} (hu : u = 0 ∨ u = 1) : bndE (ofP x) (ofP x) u = 0 ∧ bndG (ofP x) (ofP x) u = ofP x:=by
 have Ha:=ofP_gd hx
 have hl:=self_len Ha hu
 have h60:=(ofP_good hx).2.1
 have he : bndE (ofP x) (ofP x) u = 0:=by
  have h8:=(bnd_best Ha Ha Ha.w hu Ha.w.in0 (fun n=>sub1_refl u n _) fun n=>sub1_refl u n _).1
  unfold bndE at h8 ⊢
  split
  · rename_i h;rw [if_pos h] at h8;exact absurd rfl h8
  · rw [if_neg (by omega)]
 exact ⟨he,bnd_is hx Ha hu he fun n=>sub1_refl u n _⟩
theorem absorb {x X : Tp} {b : List Nd} (hx : tCheck x = 0) (Hb : Gd b) (hX : tCheck X = 0) {u : Int} (hu : u = 0 ∨ u = 1) (he : bndE (ofP x) b u = 0) (ho : ∀ n,obs (ofP X) n 0 = obs (bndG (ofP x) b u) n 0) :
 bndE (ofP x) (ofP X) (1 - u) ≠ 8 ∧ (bndE (ofP x) (ofP X) (1 - u) = 0 → bndG (ofP x) (ofP X) (1 - u) = ofP x):=by
 have Ha:=ofP_gd hx
 have HX:=ofP_gd hX
 obtain ⟨-, -,HG,k1,k2⟩:=bnd_both Ha Hb hu he
 have hs : ∀ n,sub1 (1 - u) n (obs (ofP X) n 0) (obs (ofP x) n 0):=fun n=>by
  rw [sub1_flip hu,ho]
  exact k1 n
 exact ⟨(bnd_best Ha HX Ha.w (flip_u hu) Ha.w.in0 (fun n=>sub1_refl _ n _) hs).1,fun h=>bnd_is hx HX (flip_u hu) h hs⟩
end Go.Proofs.YtgecnlcbdbaneaaDoor
/- The law BelowDuals; a symbolic walk. -/
-- TYPESD
namespace Go.Proofs.YtgecnlcbdbaneaaDoor
open Go.RowKit Go.Sw

theorem eqG_refl (g : List Nd) : eqG g g = true:=eqG_iff.2 rfl
end Go.Proofs.YtgecnlcbdbaneaaDoor
