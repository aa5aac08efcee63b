/- below.bounded, Join and Meet; a symbolic walk. -/
-- TYPESD
import Derived.Test.YtgecnlcbdbaneaaDoorKA2
import Derived.Test.YtgecnlcbdbaneaaDoorKD6
import Derived.Test.YtgecnlcbdbaneaaDoorH17
set_option linter.unusedVariables false
set_option linter.unusedSimpArgs false
namespace Go.Proofs.YtgecnlcbdbaneaaDoor
open Go.RowKit Go.Sw
open _root_.List renaming getD → za, length_map → zh, map_nil → zi
open _root_.Option renaming isSome_some → zb, getD_some → ze

theorem yw2 (Γ : Gl) {A B : List Nd} (HA : Gd A) (HB : Gd B) : ∀ f,AddF Γ A B f
 | 0=>fun q s hw hq hf=>by
  have:=vj2 hw.nd hw.ok
  omega
 | f + 1=>yt9 Γ HA HB f (yw2 Γ HA HB f)
theorem lb_len {a b : List Nd} (Ha : Gd a) (Hb : Gd b) {q : Ky} (h : okK a.length b.length q) : (lbK a b q).length ≤ 12:=by
 have h1 : (nA a b q).ls.length ≤ 6:=by
  by_cases c : q.i = -1
  · rw [nA_k c]
    have hr:=h.kr fun e=>h.2.2.1 ⟨c,e⟩
    exact (Hb.ok _ (qd0 hr.1 hr.2)).ok.ls
  · rw [xc4 c]
    have hr:=h.ir c
    exact (Ha.ok _ (qd0 hr.1 hr.2)).ok.ls
 unfold lbK
 split
 · split
   · rename_i hb
     have hr:=h.kr (qj3.1 hb).2
     have h2 : (nB b q).ls.length ≤ 6:=(Hb.ok _ (qd0 hr.1 hr.2)).ok.ls
     split
     · unfold vz1
       have:=List.length_filter_le (fun s=>inL (nB b q).ls s) (nA a b q).ls
       omega
     · unfold ym6
       have h1:=vk9 (qm2 ((nA a b q).ls ++ (nB b q).ls))
       rw [qm1,List.length_append] at h1
       omega
   · omega
 · simp
theorem ys8 {a b : List Nd} (Ha : Gd a) (Hb : Gd b) {q : Ky} (h : okK a.length b.length q) : (chK a b q).length ≤ 12:=by
 have:=lb_len Ha Hb h
 unfold chK
 split
 · simp
 split
 · simp
 split
 · simp
 split
 · simpa using this
 · simp
theorem yz2 {a b : List Nd} {s : Bd} (Ha : Gd a) (Hb : Gd b) (H : Full a b s) : (∀ j,j < s.ks.length → (qj2 s j).length ≤ 12 ∧ ∀ t ∈ qj2 s j,0 ≤ t ∧ t < (s.ks.length : Int)) ∧
 ∀ j,j < s.ks.length → (s.ns.getD j n0).ls = [] ∨ (s.ns.getD j n0).ls.length = (qj2 s j).length:=by
 refine ⟨fun j hj=>?_,fun j hj=>?_⟩
 · obtain ⟨q,h⟩:=H.cm j hj
   have hq:=H.ok h
   unfold qj2
   cases hb : ve5 a b q with
   | true =>
    have:=h.nb hb
    simp [za,this,n0]
   | false =>
    obtain ⟨to,h1,h2⟩:=h.ng hb
    have h3:=ys8 Ha Hb hq
    have h4:=h2.len
    have h5:=xi8 h2
    simp only [za,h1,ze]
    exact ⟨by omega,fun t ht=>by have:=h5 t ht;omega⟩
 · obtain ⟨q,h⟩:=H.cm j hj
   unfold qj2
   cases hb : ve5 a b q with
   | true =>
    have:=h.nb hb
    simp [za,this,n0]
   | false =>
    obtain ⟨to,h1,h2⟩:=h.ng hb
    simp only [za,h1,ze]
    cases hc : chB (nA a b q) with
    | false=>exact .inl (xh8 hc)
    | true=>exact .inr (yc0 hc h2).1
set_option maxHeartbeats 4000000 in
set_option maxRecDepth 100000 in
theorem xw1 (Γ : Gl) (A : List D) (h : 200 < A.length) : DFn Tryd.prog Γ 50 [.slc A] (iD 2):=by
 have g1 : ((A.length : Int) == 0) = false:=by rw [beq_eq_false_iff_ne];omega
 have g2 : (200 : Int) < (A.length : Int):=by omega
 refine qa4 (N:=53) Tryd.func50 rfl (by decide) rfl rfl (by simp) (fun C h0=>?_)
 simp only [qj1]
 repeat' (first|(with_reducible apply zz1)|((with_reducible apply zz2);rfl;intro K' hK';simp only [WD,simprocAttr,g1,g2];(repeat (constructor;focus (clear hK';intros;simp_all;done)));(try (apply hK';clear hK' K')))|((with_reducible apply zz3);rfl;all_goals (intro h;try exact absurd h (by decide))))
 simp only [qf7,qd5,qa2,qd6,WD,simprocAttr]
set_option maxHeartbeats 4000000 in
set_option maxRecDepth 100000 in
theorem yd8 (Γ : Gl) (A : List D) (h : 200 < A.length) : DFn Tryd.prog Γ 65 [.slc A] (.tup [.slc [],iD 2]):=by
 have hc:=xw1 Γ A h
 clear h
 refine qa4 (N:=12) Tryd.func65 rfl (by decide) rfl rfl (by simp) (fun C h0=>?_)
 simp only [qj1]
 repeat' (first|(with_reducible apply zz1)|((with_reducible apply zz2);rfl;intro K' hK';simp only [WD,simprocAttr];(repeat (constructor;focus (clear hK';intros;simp_all;done)));(try (apply hK';clear hK' K')))|((with_reducible apply zz3);rfl;all_goals (intro h;try exact absurd h (by decide))))
 refine qb1 rfl (by simp only [WD,simprocAttr]) rfl rfl (hc) ?_
 simp only [WD,simprocAttr,inX,qc7, ]
 (repeat (constructor;focus (clear hK';intros;simp_all;done)))
 (try (apply hK';clear hK' K'))
 repeat' (first|(with_reducible apply zz1)|((with_reducible apply zz2);rfl;intro K' hK';simp only [WD,simprocAttr];(repeat (constructor;focus (clear hK';intros;simp_all;done)));(try (apply hK';clear hK' K')))|((with_reducible apply zz3);rfl;all_goals (intro h;try exact absurd h (by decide))))
 simp only [qf7,qd5,qa2,qd6,WD,simprocAttr]
def bdE (x y : Tp) (u : Int) : Int:=if qs6 x y = 0 then vd7 (ofP x) (ofP y) u else qs6 x y
def bdR (x y : Tp) (u : Int) : List Nd:=if qs6 x y = 0 then vp4 (ofP x) (ofP y) u else []
def sgB (i : Nat) : Nat:=if i = 0 then 4 else if i = 1 then 3 else i + 3
theorem xk6 (i j : Nat) (h : sgB i = sgB j) : i = j:=by
 unfold sgB at h
 split at h <;> split at h <;> (try split at h) <;> (try split at h) <;> omega
def bSt (A B : List D) (M : List (Value × Value)) (ns : List D) (sm fl : List D) : St:=[(4,.cells [.d (.slc A),.d (.slc B),.mp 3,.own 5,.own 6,.own 7]),(3,.mp M),(5,.row 4 ns),(6,.row 1 sm),(7,.row 1 fl)]
set_option maxHeartbeats 16000000 in
set_option maxRecDepth 100000 in
theorem xu1 (Γ : Gl) (hΓ : yv2 Γ) (x y : Tp) (hc : qs6 x y = 0) (u : Int) (hu : u = 0 ∨ u = 1) : DFn Tryd.prog Γ 59 [x.d,y.d,iD u] (.tup [.slc ((vp4 (ofP x) (ofP y) u).map Nd.d),iD (vd7 (ofP x) (ofP y) u)]):=by
 obtain ⟨hx,hy⟩:=qi6 hc
 have HA:=qo7 hx
 have HB:=qo7 hy
 have hof:=yx8 Γ x y (xu5 Γ x) (xu5 Γ y)
 unfold ye6 at hof
 rw [hc,if_pos hx] at hof
 generalize ofP x = A at *
 generalize ofP y = B at *
 obtain ⟨H,hp0,hcm⟩:=xi6 HA HB hu
 have a0:=HA.pos
 have b0:=HB.pos
 have hok : okK A.length B.length ⟨0,0,u⟩:=⟨.inr ⟨Int.le_refl _,by simp only;omega⟩,.inr ⟨Int.le_refl _,by simp only;omega⟩,(fun h=>absurd h.1 (show (0 : Int) ≠ -1 by decide)),hu⟩
 have hA : SFn Tryd.prog Γ 74 [.ref 4 0,.d (iD 0),.d (iD 0),.d (iD u)] (bSt (A.map Nd.d) (B.map Nd.d) [] [] [] []) (.d (iD (qy8 A B (bdF A B) ⟨0,0,u⟩ ⟨[],[],[],[]⟩).1))
  (bSt (A.map Nd.d) (B.map Nd.d) (mK (bdS A B u).ks) ((bdS A B u).ns.map Nd.d) ((bdS A B u).sm.map bD) ((bdS A B u).fl.map bD)) :=
  (yw2 Γ HA HB (bdF A B) ⟨0,0,u⟩ ⟨[],[],[],[]⟩ ⟨rfl,rfl,rfl,List.nodup_nil,fun q hq=>by cases hq⟩ hok (by simp [bdF])).ren xk6
 have hn : (bdS A B u).ks.length ≤ 100000:=by
  have h1:=vj2 H.wf.nd H.wf.ok
  have h2 : (A.length + 1) * (B.length + 1) ≤ 201 * 201:=Nat.mul_le_mul (by have:=HA.le;omega) (by have:=HB.le;omega)
  omega
 obtain ⟨t1,t2⟩:=yz2 HA HB H
 have hS : SFn Tryd.prog Γ 75 [.ref 4 0] (bSt (A.map Nd.d) (B.map Nd.d) (mK (bdS A B u).ks) ((bdS A B u).ns.map Nd.d) ((bdS A B u).sm.map bD) ((bdS A B u).fl.map bD)) (.tup [])
  (bSt (A.map Nd.d) (B.map Nd.d) (mK (bdS A B u).ks) ((bdS A B u).ns.map Nd.d) ((bdS A B u).sm.map bD) ((qa7 (bdS A B u)).map bD)) :=
  (yj6 Γ A B (mK (bdS A B u).ks) (bdS A B u) H.wf.l1 H.wf.l2 H.wf.l3 hn t1).ren xk6
 have hsl : (qa7 (bdS A B u)).length = (bdS A B u).ks.length:=(vk5 H.wf.l3).1.ln.trans H.wf.l3
 have hL : (qa7 (bdS A B u)).getD 0 false = false → SFn Tryd.prog Γ 76 [.ref 4 0] (bSt (A.map Nd.d) (B.map Nd.d) (mK (bdS A B u).ks) ((bdS A B u).ns.map Nd.d) ((bdS A B u).sm.map bD) ((qa7 (bdS A B u)).map bD)) (.d (.slc ((bdL A B u).map Nd.d)))
  (bSt (A.map Nd.d) (B.map Nd.d) (mK (bdS A B u).ks) ((bdS A B u).ns.map Nd.d) ((bdS A B u).sm.map bD) ((qa7 (bdS A B u)).map bD)):=fun h =>
  (left_fn Γ A B (mK (bdS A B u).ks) (bdS A B u) (qa7 (bdS A B u)) H.wf.l1 hsl hn hp0 h t1 t2).ren xk6
 have hF : DFn Tryd.prog Γ 65 [.slc ((bdL A B u).map Nd.d)] (.tup [.slc ((vp4 A B u).map Nd.d),iD (vd7 A B u)]) ∨ (qa7 (bdS A B u)).getD 0 false = true:=by
  cases hl : (qa7 (bdS A B u)).getD 0 false with
  | true=>exact .inr rfl
  | false =>
   obtain ⟨l1,l2,l3,l4⟩:=xj1 HA HB H hp0 hl
   refine .inl ?_
   have hbe : vd7 A B u = if 200 < (bdL A B u).length then 2 else 0:=by
    unfold vd7
    rw [hl,if_neg (by decide)]
   unfold vp4
   rw [hbe]
   by_cases h2 : 200 < (bdL A B u).length
   · rw [if_pos h2,if_neg (by decide)]
     exact yd8 Γ _ (by rw [zh];exact h2)
   · rw [if_neg h2,if_pos rfl]
     exact yg1 Γ hΓ _ l1 (by omega) l2 l3
 have hge : (qa7 (bdS A B u)).getD 0 false = true → vd7 A B u = 8 ∧ vp4 A B u = []:=fun h=>by
  have : vd7 A B u = 8:=by unfold vd7;rw [if_pos h]
  exact ⟨this,by unfold vp4;rw [this,if_neg (by decide)]⟩
 have hgf : ((qa7 (bdS A B u)).map bD).getD 0 default = bD ((qa7 (bdS A B u)).getD 0 false):=by
  have h : 0 < (qa7 (bdS A B u)).length:=by omega
  simp [za,h]
 have hlp : (0 : Int) < ((qa7 (bdS A B u)).length : Int):=by omega
 generalize vd7 A B u = e at *
 generalize (bdL A B u).map Nd.d = Z at *
 generalize (vp4 A B u) = G at *
 generalize qa7 (bdS A B u) = F at *
 generalize (qy8 A B (bdF A B) ⟨0,0,u⟩ ⟨[],[],[],[]⟩).1 = n at *
 generalize mK (bdS A B u).ks = M at *
 generalize (bdS A B u).ns.map Nd.d = N at *
 generalize (bdS A B u).sm.map bD = S at *
 generalize (bdS A B u).fl.map bD = F0 at *
 generalize A.map Nd.d = A' at *
 generalize B.map Nd.d = B' at *
 clear t1 t2 hsl hn H hcm hp0 hok
 generalize F.getD 0 false = v at *
 generalize hFm : F.map bD = F' at *
 have hFl : F'.length = F.length:=by rw [← hFm,zh]
 simp only [bSt] at hA hS hL
 obtain ⟨k,so,nm,ls,l⟩:=x
 obtain ⟨k',so',nm',ls',l'⟩:=y
 simp only [Tp.d] at hof ⊢
 refine qa4 (N:=43) Tryd.func59 rfl (by decide) rfl rfl (by simp) (fun C h0=>?_)
 simp only [qj1]
 repeat' (first|(with_reducible apply zz1)|((with_reducible apply zz2);rfl;intro K' hK';simp only [WD,simprocAttr];(repeat (constructor;focus (clear hK';intros;simp_all;done)));(try (apply hK';clear hK' K')))|((with_reducible apply zz3);rfl;all_goals (intro h;try exact absurd h (by decide))))
 refine qb4 h0 rfl (by simp only [WD,simprocAttr]) rfl (by simp only [qe6,zb,WD,simprocAttr]) (hof) ?_
 simp only [WD,simprocAttr,inX,qc7, ]
 (repeat (constructor;focus (clear hK';intros;simp_all;done)))
 (try (apply hK';clear hK' K'))
 repeat' (first|(with_reducible apply zz1)|((with_reducible apply zz2);rfl;intro K' hK';simp only [WD,simprocAttr];(repeat (constructor;focus (clear hK';intros;simp_all;done)));(try (apply hK';clear hK' K')))|((with_reducible apply zz3);rfl;all_goals (intro h;try exact absurd h (by decide))))
 -- TRACE
 refine qn4 (qn2 4 3 5 4 rfl rfl rfl (by decide)) ?_
 simp only [WD,simprocAttr]
 refine qn4 (qn2 4 4 6 1 rfl rfl rfl (by decide)) ?_
 simp only [WD,simprocAttr]
 refine qn4 (qn2 4 5 7 1 rfl rfl rfl (by decide)) ?_
 simp only [WD,simprocAttr]
 refine qm7 rfl (by simp only [UA,WD,simprocAttr]) (hA) ?_
 simp only [WD,simprocAttr,UM, ]
 (try (apply hK';clear hK' K'))
 repeat' (first|(with_reducible apply zz1)|((with_reducible apply zz2);rfl;intro K' hK';simp only [WD,simprocAttr];(repeat (constructor;focus (clear hK';intros;simp_all;done)));(try (apply hK';clear hK' K')))|((with_reducible apply zz3);rfl;all_goals (intro h;try exact absurd h (by decide))))
 refine qm7 rfl (by simp only [UA,WD,simprocAttr]) (hS) ?_
 simp only [WD,simprocAttr,UM, ]
 (try (apply hK';clear hK' K'))
 cases v with
 | true =>
  obtain ⟨rfl,rfl⟩:=hge rfl
  repeat' (first|(with_reducible apply zz1)|((with_reducible apply zz2);rfl;intro K' hK';simp only [WD,simprocAttr,hgf,hlp,hFl];(repeat (constructor;focus (clear hK';intros;simp_all;done)));(try (apply hK';clear hK' K')))|((with_reducible apply zz3);rfl;all_goals (intro h;try exact absurd h (by decide))))
  simp only [qf7,qd5,qa2,qd6,WD,simprocAttr,zi]
 | false =>
  have hL:=hL rfl
  have hF:=hF.resolve_right (by decide)
  repeat' (first|(with_reducible apply zz1)|((with_reducible apply zz2);rfl;intro K' hK';simp only [WD,simprocAttr,hgf,hlp,hFl];(repeat (constructor;focus (clear hK';intros;simp_all;done)));(try (apply hK';clear hK' K')))|((with_reducible apply zz3);rfl;all_goals (intro h;try exact absurd h (by decide))))
  refine qm7 rfl (by simp only [UA,WD,simprocAttr]) (hL) ?_
  simp only [WD,simprocAttr,UM, ]
  (try (apply hK';clear hK' K'))
  refine qb4 h0 rfl (by simp only [WD,simprocAttr]) rfl (by simp only [qe6,zb,WD,simprocAttr]) (hF) ?_
  simp only [WD,simprocAttr,inX,qc7, ]
  (repeat (constructor;focus (clear hK';intros;simp_all;done)))
  (try (apply hK';clear hK' K'))
  repeat' (first|(with_reducible apply zz1)|((with_reducible apply zz2);rfl;intro K' hK';simp only [WD,simprocAttr];(repeat (constructor;focus (clear hK';intros;simp_all;done)));(try (apply hK';clear hK' K')))|((with_reducible apply zz3);rfl;all_goals (intro h;try exact absurd h (by decide))))
  simp only [qf7,qd5,qa2,qd6,WD,simprocAttr]
set_option maxHeartbeats 16000000 in
set_option maxRecDepth 100000 in
theorem xv4 (Γ : Gl) (hΓ : yv2 Γ) (x y : Tp) (u : Int) (hu : u = 0 ∨ u = 1) : DFn Tryd.prog Γ 59 [x.d,y.d,iD u] (.tup [.slc ((bdR x y u).map Nd.d),iD (bdE x y u)]):=by
 by_cases hc : qs6 x y = 0
 · have:=xu1 Γ hΓ x y hc u hu
   unfold bdR bdE
   rw [if_pos hc,if_pos hc]
   exact this
 · have hof:=yx8 Γ x y (xu5 Γ x) (xu5 Γ y)
   have g1 : (qs6 x y != 0) = true:=by simpa using hc
   unfold bdR bdE
   rw [if_neg hc,if_neg hc]
   obtain ⟨A,B,hb⟩:=xt0 x y
   rw [hb] at hof
   generalize qs6 x y = e at *
   obtain ⟨k,so,nm,ls,l⟩:=x
   obtain ⟨k',so',nm',ls',l'⟩:=y
   simp only [Tp.d] at hof ⊢
   clear hb
   refine qa4 (N:=43) Tryd.func59 rfl (by decide) rfl rfl (by simp) (fun C h0=>?_)
   simp only [qj1]
   repeat' (first|(with_reducible apply zz1)|((with_reducible apply zz2);rfl;intro K' hK';simp only [WD,simprocAttr];(repeat (constructor;focus (clear hK';intros;simp_all;done)));(try (apply hK';clear hK' K')))|((with_reducible apply zz3);rfl;all_goals (intro h;try exact absurd h (by decide))))
   refine qb4 h0 rfl (by simp only [WD,simprocAttr]) rfl (by simp only [qe6,zb,WD,simprocAttr]) (hof) ?_
   simp only [WD,simprocAttr,inX,qc7, ]
   (repeat (constructor;focus (clear hK';intros;simp_all;done)))
   (try (apply hK';clear hK' K'))
   repeat' (first|(with_reducible apply zz1)|((with_reducible apply zz2);rfl;intro K' hK';simp only [WD,simprocAttr,g1];(repeat (constructor;focus (clear hK';intros;simp_all;done)));(try (apply hK';clear hK' K')))|((with_reducible apply zz3);rfl;all_goals (intro h;try exact absurd h (by decide))))
   simp only [qf7,qd5,qa2,qd6,WD,simprocAttr,zi]
set_option maxHeartbeats 4000000 in
set_option maxRecDepth 100000 in
theorem meet_fn (Γ : Gl) (hΓ : yv2 Γ) (x y : Tp) : DFn Tryd.prog Γ 24 [x.d,y.d] (.tup [.slc ((bdR x y 0).map Nd.d),iD (bdE x y 0)]):=by
 have hb:=xv4 Γ hΓ x y 0 (.inl rfl)
 generalize (bdR x y 0).map Nd.d = R at *
 generalize bdE x y 0 = e at *
 obtain ⟨k,so,nm,ls,l⟩:=x
 obtain ⟨k',so',nm',ls',l'⟩:=y
 simp only [Tp.d] at hb ⊢
 refine qa4 (N:=11) Tryd.func24 rfl (by decide) rfl rfl (by simp) (fun C h0=>?_)
 simp only [qj1]
 repeat' (first|(with_reducible apply zz1)|((with_reducible apply zz2);rfl;intro K' hK';simp only [WD,simprocAttr];(repeat (constructor;focus (clear hK';intros;simp_all;done)));(try (apply hK';clear hK' K')))|((with_reducible apply zz3);rfl;all_goals (intro h;try exact absurd h (by decide))))
 refine qb4 h0 rfl (by simp only [WD,simprocAttr]) rfl (by simp only [qe6,zb,WD,simprocAttr]) (hb) ?_
 simp only [WD,simprocAttr,inX,qc7, ]
 (repeat (constructor;focus (clear hK';intros;simp_all;done)))
 (try (apply hK';clear hK' K'))
 repeat' (first|(with_reducible apply zz1)|((with_reducible apply zz2);rfl;intro K' hK';simp only [WD,simprocAttr];(repeat (constructor;focus (clear hK';intros;simp_all;done)));(try (apply hK';clear hK' K')))|((with_reducible apply zz3);rfl;all_goals (intro h;try exact absurd h (by decide))))
 simp only [qf7,qd5,qa2,qd6,WD,simprocAttr]
end Go.Proofs.YtgecnlcbdbaneaaDoor
