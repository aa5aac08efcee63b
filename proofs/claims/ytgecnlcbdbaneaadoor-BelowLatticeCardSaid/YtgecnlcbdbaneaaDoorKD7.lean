/- below.bounded, all of it: plain. -/
import Derived.Test.YtgecnlcbdbaneaaDoorKD6
import Derived.Test.YtgecnlcbdbaneaaDoorKD1
set_option linter.unusedVariables false
set_option linter.unusedSimpArgs false
namespace Go.Proofs.YtgecnlcbdbaneaaDoor
open Go.RowKit Go.Sw

def idC (n : Nat) : List Int:=(List.range n).map fun (i : Nat)=>(i : Int)
theorem idC_at {n : Nat} {k : Int} (h : 0 ≤ k ∧ k < (n : Int)) : cOf (idC n) k = k:=by
 unfold cOf idC
 rw [List.getD_eq_getElem?_getD,List.getElem?_map,List.getElem?_range (by omega)]
 simp only [Option.map_some,Option.getD_some]
 omega
def leftP (s : Bd) (F : List Bool) : List Nd:=lstF (SG s F) (idC s.ks.length) (s.ks.length + 1) 0 [0] []
theorem addO_in (cl ord : List Int) (k : Int) : ∀ v ∈ addO cl ord k,v ∈ ord ∨ v = k:=fun v hv=>by
 unfold addO at hv
 split at hv
 · exact .inl hv
 · rcases List.mem_append.1 hv with h | h
   · exact .inl h
   · exact .inr (by simpa using h)
theorem rowO_in (cl : List Int) : ∀ (to ord : List Int), ∀ v ∈ (rowO cl to ord).2,v ∈ ord ∨ v ∈ to
 | [],ord,v,h=>.inl h
 | k :: to,ord,v,h=>by
  simp only [rowO] at h
  rcases rowO_in cl to _ v h with h | h
  · rcases addO_in cl ord k v h with h | h
    · exact .inl h
    · exact .inr (by simp [h])
  · exact .inr (by simp [h])
theorem lstF_inv {g : List Nd} {cl : List Int} {P : Int → Prop} (hP : ∀ v,P v → ∀ t ∈ (gAt g v).to,P t) : ∀ (f at' : Nat) (ord : List Int) (out : List Nd),(∀ v ∈ ord,P v) →
 (∀ x ∈ out, ∃ v,P v ∧ x.k = (gAt g v).k ∧ x.so = (gAt g v).so ∧ x.ls = (gAt g v).ls ∧ x.to.length = (gAt g v).to.length) →
 ∀ x ∈ lstF g cl f at' ord out, ∃ v,P v ∧ x.k = (gAt g v).k ∧ x.so = (gAt g v).so ∧ x.ls = (gAt g v).ls ∧ x.to.length = (gAt g v).to.length
 | 0,_,_,_,_,ho=>ho
 | f + 1, at',ord,out,hv,ho=>by
  unfold lstF
  cases hx : ord[at']? with
  | none=>exact ho
  | some v =>
   cases hn : g[v.toNat]? with
   | none=>simp only [hn];exact ho
   | some n =>
    simp only [hn]
    have hpv:=hv v (List.mem_of_getElem? hx)
    have hg : gAt g v = n:=by simp [gAt,List.getD,hn]
    refine lstF_inv hP f (at' + 1) _ _ (fun w hw=>?_) (fun x hx=>?_)
    · rcases rowO_in cl n.to ord w hw with h | h
      · exact hv w h
      · exact hP v hpv w (by rw [hg];exact h)
    · rcases List.mem_append.1 hx with hx | hx
      · exact ho x hx
      · rw [List.mem_singleton] at hx
        subst hx
        exact ⟨v,hpv,by rw [hg],by rw [hg],by rw [hg],by rw [hg,rowO_len]⟩
theorem shN.good {M : Nat} {z : Nd} (h : shN z) (hn : ∀ l ∈ z.ls,isNameB l = true) (hr : ∀ t ∈ z.to,0 ≤ t ∧ t < (M : Int)) : NdG M z:=by
 have h6 : z.ls.length ≤ 6 ∧ z.to.length ≤ 6 ∧ z.ls.length ≤ z.to.length:=by
  rcases h with ⟨-, -,e,e'⟩ | ⟨-, -,e,e'⟩ | ⟨-, -,e,e'⟩ | ⟨-, -,e,e'⟩
  · rw [e,e'];simp
  · rw [e,e'];simp
  · rw [e,e'];simp
  · have:=labels_len e
    omega
 refine ⟨⟨?_,?_,h6.1,fun l hl=>name_size8 (hn l hl),h6.2.1,hr⟩,⟨fun hk=>h.one hk,fun hk=>(h.two hk).2,h6.2.2,h6.1⟩,hn⟩
 · rcases h with ⟨e, -⟩ | ⟨e, -⟩ | ⟨e, -⟩ | ⟨e, -⟩ <;> omega
 · rcases h with ⟨-,e, -⟩ | ⟨-,e, -⟩ | ⟨-,e, -⟩ | ⟨-,e, -⟩ <;> omega
section
variable {a b : List Nd} {s : Bd}
theorem SG_good (Ha : Gd a) (Hb : Gd b) (H : Full a b s) : ∀ n ∈ SG s (strikeP s),NdG (SG s (strikeP s)).length n:=by
 intro z hz
 obtain ⟨j,hj,rfl⟩:=List.mem_map.1 hz
 have hj:=List.mem_range.1 hj
 rw [SG_len]
 cases hl : (strikeP s).getD j false with
 | true =>
  unfold sgN
  rw [if_pos hl]
  exact ⟨⟨by decide,by decide,by simp [n0],(fun l h=>by cases h),by simp [n0],fun t h=>by cases h⟩,⟨fun h=>by simp [n0] at h,fun h=>by simp [n0] at h,by simp [n0],by simp [n0]⟩,(fun l h=>by cases h)⟩
 | false =>
  obtain ⟨q,h⟩:=H.cm j hj
  have L:=left_node Ha Hb H h hl
  rw [SG_at hj] at L
  exact L.sh.good L.nm fun t ht=>by have:=L.to t ht;omega
theorem left_ok (Ha : Gd a) (Hb : Gd b) (H : Full a b s) (h0 : 0 < s.ks.length) (hl : (strikeP s).getD 0 false = false) :
 0 < (leftP s (strikeP s)).length ∧ (∀ n ∈ leftP s (strikeP s),NdG (leftP s (strikeP s)).length n) ∧ ShG (leftP s (strikeP s)) ∧ ∀ n,obs (leftP s (strikeP s)) n 0 = obs (SG s (strikeP s)) n 0:=by
 have hG:=SG_good Ha Hb H
 have hlen:=SG_len s (strikeP s)
 have ho : OrdI (idC s.ks.length) (SG s (strikeP s)).length [0]:=ord_one (by omega) _
 have hgood:=lstF_good (cl:=idC s.ks.length) hG (s.ks.length + 1) 0 [0] [] ho rfl (by simp) (by omega) (fun n hn=>by cases hn)
 obtain ⟨o,o1,o2,o3,o4⟩:=lstF_made (cl:=idC s.ks.length) hG (s.ks.length + 1) 0 [0] [] ho (by simp) rfl (by omega) (by intro p x v hp;simp at hp)
 have hinv:=lstF_inv (g:=SG s (strikeP s)) (cl:=idC s.ks.length) (P:=fun v=>0 ≤ v ∧ v.toNat < s.ks.length ∧ fAt (strikeP s) v = false) (fun v hv t ht=>by
  obtain ⟨v0,v1,v2⟩:=hv
  obtain ⟨q,h⟩:=H.cm v.toNat v1
  have L:=left_node Ha Hb H h v2
  rw [show ((v.toNat : Nat) : Int) = v by omega] at L
  have:=L.to t ht
  exact ⟨this.2.1,this.2.2,this.1⟩) (s.ks.length + 1) 0 [0] [] (fun v hv=>by rw [List.mem_singleton] at hv;subst hv;exact ⟨by decide,h0,hl⟩) (fun x hx=>by cases hx)
 have hL : leftP s (strikeP s) = lstF (SG s (strikeP s)) (idC s.ks.length) (s.ks.length + 1) 0 [0] []:=rfl
 rw [← hL] at hgood o2 o4 hinv
 refine ⟨by have:=hgood.1;simp at this;omega,hgood.2.2,fun x hx=>?_,?_⟩
 · obtain ⟨v,⟨v0,v1,v2⟩,e1,e2,e3,e4⟩:=hinv x hx
   obtain ⟨q,h⟩:=H.cm v.toNat v1
   have L:=left_node Ha Hb H h v2
   rw [show ((v.toNat : Nat) : Int) = v by omega] at L
   rw [e1,e2,e3,e4]
   exact L.sh
 · have key : ∀ (n p : Nat) (v : Int),o[p]? = some v → obs (leftP s (strikeP s)) n p = obs (SG s (strikeP s)) n v:=fun n=>by
    induction n with
    | zero=>intro p v _;rfl
    | succ n ih =>
     intro p v hv
     have hlt:=(List.getElem?_eq_some_iff.1 hv).1
     obtain ⟨x,hx⟩ : ∃ x,(leftP s (strikeP s))[p]? = some x:=⟨_,List.getElem?_eq_getElem (by omega)⟩
     obtain ⟨e1,e2,e3,e4,e5⟩:=o4 p x v hx hv
     have hvr:=o1.r v (List.mem_of_getElem? hv)
     have hgm:=hG _ (gAt_mem hvr.1 hvr.2)
     rw [obs,obs,gAt_nat hx,e1,e2,e3]
     congr 1
     apply List.ext_getElem
     · simp [e4]
     · intro i h1 h2
       simp only [List.length_map] at h1 h2
       simp only [List.getElem_map]
       obtain ⟨t0,w,hw,hcw⟩:=e5 i _ _ (List.getElem?_eq_getElem h1) (List.getElem?_eq_getElem h2)
       have hwr:=o1.r w (List.mem_of_getElem? hw)
       have hur:=hgm.ok.r _ (List.getElem_mem h2)
       rw [idC_at (by rw [← hlen];exact hwr),idC_at (by rw [← hlen];exact hur)] at hcw
       have:=ih _ w hw
       rw [show (((x.to[i]).toNat : Nat) : Int) = x.to[i] by omega] at this
       rw [this,hcw]
   intro n
   have:=key n 0 0 (by rw [o3 0 (by simp)];rfl)
   exact this
end
def bdF (a b : List Nd) : Nat:=(a.length + 1) * (b.length + 1) * 2 + 1
def bdS (a b : List Nd) (u : Int) : Bd:=(addB a b (bdF a b) ⟨0,0,u⟩ ⟨[],[],[],[]⟩).2
def bdL (a b : List Nd) (u : Int) : List Nd:=leftP (bdS a b u) (strikeP (bdS a b u))
def bndE (a b : List Nd) (u : Int) : Int:=if (strikeP (bdS a b u)).getD 0 false = true then 8 else if 200 < (bdL a b u).length then 2 else 0
def bndG (a b : List Nd) (u : Int) : List Nd:=if bndE a b u = 0 then leastP (bdL a b u) else []
theorem bd_full {a b : List Nd} (Ha : Gd a) (Hb : Gd b) {u : Int} (hu : u = 0 ∨ u = 1) : Full a b (bdS a b u) ∧ 0 < (bdS a b u).ks.length ∧ Cmp a b (bdS a b u) 0 ⟨0,0,u⟩:=by
 have ha:=Ha.pos
 have hb:=Hb.pos
 have hok : okK a.length b.length ⟨0,0,u⟩:=⟨.inr ⟨Int.le_refl _,by simp only;omega⟩,.inr ⟨Int.le_refl _,by simp only;omega⟩,(fun h=>absurd h.1 (show (0 : Int) ≠ -1 by decide)),hu⟩
 have h:=add_ok (ch_ok Ha Hb) (bdF a b) ⟨0,0,u⟩ ⟨[],[],[],[]⟩ ⟨rfl,rfl,rfl,List.nodup_nil,fun q hq=>by cases hq⟩ hok (by simp [bdF])
 have hid:=h.id
 have e : (addB a b (bdF a b) ⟨0,0,u⟩ ⟨[],[],[],[]⟩).1 = 0:=by
  unfold bdF addB
  simp only [posK]
  split <;> rfl
 rw [e] at hid
 have hF : Full a b (bdS a b u):=⟨h.wf,fun j hj=>h.cm j (Nat.zero_le _) hj⟩
 exact ⟨hF,(id_lt hid).2,hF.at hid⟩
theorem bnd_both {a b : List Nd} (Ha : Gd a) (Hb : Gd b) {u : Int} (hu : u = 0 ∨ u = 1) (he : bndE a b u = 0) : Gd (bdL a b u) ∧ bndG a b u = leastP (bdL a b u) ∧ Gd (bndG a b u) ∧
 (∀ n,sub1 u n (obs a n 0) (obs (bndG a b u) n 0)) ∧ ∀ n,sub1 u n (obs b n 0) (obs (bndG a b u) n 0):=by
 obtain ⟨H,h0,hc⟩:=bd_full Ha Hb hu
 have hE:=he
 unfold bndE at hE
 have hl : (strikeP (bdS a b u)).getD 0 false = false:=by
  cases e : (strikeP (bdS a b u)).getD 0 false with
  | false=>rfl
  | true=>rw [if_pos e] at hE;cases hE
 rw [if_neg (by rw [hl];decide)] at hE
 have h200 : (bdL a b u).length ≤ 200:=by
  rcases Nat.lt_or_ge 200 (bdL a b u).length with h | h
  · rw [if_pos h] at hE;cases hE
  · exact h
 obtain ⟨l1,l2,l3,l4⟩:=left_ok Ha Hb H h0 hl
 have hG : Gd (bdL a b u):=⟨l1,h200,l2,l3⟩
 have e : bndG a b u = leastP (bdL a b u):=by unfold bndG;rw [if_pos he]
 have hg:=least_good hG.pos hG.ok
 have hob : ∀ n,obs (bndG a b u) n 0 = obs (SG (bdS a b u) (strikeP (bdS a b u))) n 0:=fun n=>by
  rw [e,least_obs hG.ok hG.pos];exact l4 n
 have hs:=fun n sd (hi : sI ⟨0,0,u⟩ sd ≠ -1)=>sound Ha Hb H n 0 ⟨0,0,u⟩ hc hl sd hi
 refine ⟨hG,e,by rw [e];exact ⟨hg.1,Nat.le_trans hg.2.1 h200,hg.2.2,least_sh hG.ok hG.pos hG.sh⟩,fun n=>?_,fun n=>?_⟩
 · rw [hob];exact hs n true (show (0 : Int) ≠ -1 by decide)
 · rw [hob];exact hs n false (show (0 : Int) ≠ -1 by decide)
theorem bnd_best {a b c : List Nd} (Ha : Gd a) (Hb : Gd b) (Hc : Gw c) {u v : Int} (hu : u = 0 ∨ u = 1) (hv : inr c v) (h1 : ∀ n,sub1 u n (obs a n 0) (obs c n v)) (h2 : ∀ n,sub1 u n (obs b n 0) (obs c n v)) :
 bndE a b u ≠ 8 ∧ (bndE a b u = 0 → ∀ n,sub1 u n (obs (bndG a b u) n 0) (obs c n v)):=by
 obtain ⟨H,h0,hc⟩:=bd_full Ha Hb hu
 have B : Bnd a b ⟨0,0,u⟩ c v:=⟨fun _=>h1,fun _=>h2⟩
 have hl:=live_of Ha Hb H hc ⟨c,v,Hc,hv,B⟩
 refine ⟨fun e=>?_,fun he n=>?_⟩
 · unfold bndE at e
   rw [if_neg (by rw [hl];decide)] at e
   split at e <;> cases e
 · obtain ⟨hG,e, -⟩:=bnd_both Ha Hb hu he
   obtain ⟨l1,l2,l3,l4⟩:=left_ok Ha Hb H h0 hl
   rw [e,least_obs hG.ok hG.pos]
   show sub1 u n (obs (leftP _ _) n 0) _
   rw [l4 n]
   exact best Ha Hb H Hc n 0 ⟨0,0,u⟩ v hc hv B
end Go.Proofs.YtgecnlcbdbaneaaDoor
/- below.index, below.bound's strike; a symbolic walk. -/
-- TYPESD
namespace Go.Proofs.YtgecnlcbdbaneaaDoor
open Go.RowKit Go.Sw

set_option maxHeartbeats 4000000 in
set_option maxRecDepth 100000 in
theorem index_fn (Γ : Gl) {g : List Nd} (Hg : Gd g) (i : Int) (l : ByteArray) (hi : i = -1 ∨ inr g i) : DFn Tryd.prog Γ 87 [.slc (g.map Nd.d),iD i,sD l] (iD (ixY g i l)):=by
 unfold ixY
 by_cases h1 : i = -1
 · rw [if_pos h1]
   have g1 : (i == -1) = true:=by simpa using h1
   refine fn_of_swp (N:=16) Tryd.func87 rfl (by decide) rfl rfl (by simp) (fun C h0=>?_)
   simp only [argE]
   repeat' (first|(with_reducible apply zz1)|((with_reducible refine zz4 ?_ ?_);rfl)|((with_reducible refine zz2 ?_ (fun K' hK'=>?_));rfl;simp only [WD,simprocAttr,g1];(repeat (refine And.intro ?_ ?_;focus (clear hK';intros;simp_all;done)));(try (refine hK' _ _ ?_;clear hK' K')))|((with_reducible refine zz3 ?_ ?_);rfl;refine ⟨_,rfl,fun h=>?_,fun h=>?_⟩ <;> try exact absurd h (by decide)))
   simp only [Kret,retL,retOne,oneV,WD,simprocAttr]
 · rw [if_neg h1]
   have hr : inr g i:=hi.elim (fun e=>absurd e h1) id
   have g1 : (i == -1) = false:=by simpa using h1
   have hga:=gAt_d hr.1 hr.2
   have hls:=(Hg.ok _ (gAt_mem hr.1 hr.2)).ok.ls
   have hI:=indexS_fn Γ (gAt g i).ls l (by omega)
   have r1:=hr.1
   have r2:=hr.2
   unfold ixL
   generalize gAt g i = X at *
   obtain ⟨xk,xso,xls,xto⟩:=X
   simp only [Nd.d] at hga
   simp only at hI
   refine fn_of_swp (N:=16) Tryd.func87 rfl (by decide) rfl rfl (by simp) (fun C h0=>?_)
   simp only [argE]
   repeat' (first|(with_reducible apply zz1)|((with_reducible refine zz4 ?_ ?_);rfl)|((with_reducible refine zz2 ?_ (fun K' hK'=>?_));rfl;simp only [WD,simprocAttr,g1,r1,r2,hga,List.length_map];(repeat (refine And.intro ?_ ?_;focus (clear hK';intros;simp_all;done)));(try (refine hK' _ _ ?_;clear hK' K')))|((with_reducible refine zz3 ?_ ?_);rfl;refine ⟨_,rfl,fun h=>?_,fun h=>?_⟩ <;> try exact absurd h (by decide)))
   refine stop_callF rfl (by simp only [WD,simprocAttr]) rfl rfl (hI) ?_
   simp only [WD,simprocAttr,inX,dropS, ]
   (repeat (refine And.intro ?_ ?_;focus (clear hK';intros;simp_all;done)))
   (try (refine hK' _ _ ?_;clear hK' K'))
   repeat' (first|(with_reducible apply zz1)|((with_reducible refine zz4 ?_ ?_);rfl)|((with_reducible refine zz2 ?_ (fun K' hK'=>?_));rfl;simp only [WD,simprocAttr];(repeat (refine And.intro ?_ ?_;focus (clear hK';intros;simp_all;done)));(try (refine hK' _ _ ?_;clear hK' K')))|((with_reducible refine zz3 ?_ ?_);rfl;refine ⟨_,rfl,fun h=>?_,fun h=>?_⟩ <;> try exact absurd h (by decide)))
   simp only [Kret,retL,retOne,oneV,WD,simprocAttr]
end Go.Proofs.YtgecnlcbdbaneaaDoor
