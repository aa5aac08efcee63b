/- below.bounded, Join and Meet; a symbolic walk. -/
import Derived.Test.YtgecnlcbdbaneaaDoorKA2
import Derived.Test.YtgecnlcbdbaneaaDoorKD7
import Derived.Test.YtgecnlcbdbaneaaDoorH17
import Derived.Test.YtgecnlcbdbaneaaDoorH24
-- TYPESD
set_option linter.unusedVariables false
set_option linter.unusedSimpArgs false
namespace Go.Proofs.YtgecnlcbdbaneaaDoor
open Go.RowKit Go.Sw

theorem add_fn (Γ : Gl) {A B : List Nd} (HA : Gd A) (HB : Gd B) : ∀ f,AddF Γ A B f
 | 0=>fun q s hw hq hf=>by
  have:=keys_len hw.nd hw.ok
  omega
 | f + 1=>add_step Γ HA HB f (add_fn Γ HA HB f)
theorem lb_len {a b : List Nd} (Ha : Gd a) (Hb : Gd b) {q : Ky} (h : okK a.length b.length q) : (lbK a b q).length ≤ 12:=by
 have h1 : (nA a b q).ls.length ≤ 6:=by
  by_cases c : q.i = -1
  · rw [nA_k c]
    have hr:=h.kr fun e=>h.2.2.1 ⟨c,e⟩
    exact (Hb.ok _ (gAt_mem hr.1 hr.2)).ok.ls
  · rw [nA_i c]
    have hr:=h.ir c
    exact (Ha.ok _ (gAt_mem hr.1 hr.2)).ok.ls
 unfold lbK
 split
 · split
   · rename_i hb
     have hr:=h.kr (both_iff.1 hb).2
     have h2 : (nB b q).ls.length ≤ 6:=(Hb.ok _ (gAt_mem hr.1 hr.2)).ok.ls
     split
     · unfold intL
       have:=List.length_filter_le (fun s=>inL (nB b q).ls s) (nA a b q).ls
       omega
     · unfold uniL
       have h1:=compS_len (sortS ((nA a b q).ls ++ (nB b q).ls))
       rw [sortS_len,List.length_append] at h1
       omega
   · omega
 · simp
theorem ch_len12 {a b : List Nd} (Ha : Gd a) (Hb : Gd b) {q : Ky} (h : okK a.length b.length q) : (chK a b q).length ≤ 12:=by
 have:=lb_len Ha Hb h
 unfold chK
 split
 · simp
 split
 · simp
 split
 · simp
 split
 · simpa using this
 · simp
theorem full_to {a b : List Nd} {s : Bd} (Ha : Gd a) (Hb : Gd b) (H : Full a b s) : (∀ j,j < s.ks.length → (toAt s j).length ≤ 12 ∧ ∀ t ∈ toAt s j,0 ≤ t ∧ t < (s.ks.length : Int)) ∧
 ∀ j,j < s.ks.length → (s.ns.getD j n0).ls = [] ∨ (s.ns.getD j n0).ls.length = (toAt s j).length:=by
 refine ⟨fun j hj=>?_,fun j hj=>?_⟩
 · obtain ⟨q,h⟩:=H.cm j hj
   have hq:=H.ok h
   unfold toAt
   cases hb : badK a b q with
   | true =>
    have:=h.nb hb
    simp [List.getD,this,n0]
   | false =>
    obtain ⟨to,h1,h2⟩:=h.ng hb
    have h3:=ch_len12 Ha Hb hq
    have h4:=h2.len
    have h5:=all2_lt h2
    simp only [List.getD,h1,Option.getD_some]
    exact ⟨by omega,fun t ht=>by have:=h5 t ht;omega⟩
 · obtain ⟨q,h⟩:=H.cm j hj
   unfold toAt
   cases hb : badK a b q with
   | true =>
    have:=h.nb hb
    simp [List.getD,this,n0]
   | false =>
    obtain ⟨to,h1,h2⟩:=h.ng hb
    simp only [List.getD,h1,Option.getD_some]
    cases hc : chB (nA a b q) with
    | false=>exact .inl (lb_none hc)
    | true=>exact .inr (lab_ch hc h2).1
set_option maxHeartbeats 4000000 in
set_option maxRecDepth 100000 in
theorem gcheck_big (Γ : Gl) (A : List D) (h : 200 < A.length) : DFn Tryd.prog Γ 50 [.slc A] (iD 2):=by
 have g1 : ((A.length : Int) == 0) = false:=by rw [beq_eq_false_iff_ne];omega
 have g2 : (200 : Int) < (A.length : Int):=by omega
 refine fn_of_swp (N:=53) Tryd.func50 rfl (by decide) rfl rfl (by simp) (fun C h0=>?_)
 simp only [argE]
 repeat' (first|(with_reducible apply zz1)|((with_reducible apply zz4);rfl)|((with_reducible apply zz2);rfl;intro K' hK';simp only [WD,simprocAttr,g1,g2];(repeat (constructor;focus (clear hK';intros;simp_all;done)));(try (apply hK';clear hK' K')))|((with_reducible apply zz3);rfl;refine ⟨_,rfl,fun h=>?_,fun h=>?_⟩ <;> try exact absurd h (by decide)))
 simp only [Kret,retL,retOne,oneV,WD,simprocAttr]
set_option maxHeartbeats 4000000 in
set_option maxRecDepth 100000 in
theorem least_big (Γ : Gl) (A : List D) (h : 200 < A.length) : DFn Tryd.prog Γ 65 [.slc A] (.tup [.slc [],iD 2]):=by
 have hc:=gcheck_big Γ A h
 clear h
 refine fn_of_swp (N:=12) Tryd.func65 rfl (by decide) rfl rfl (by simp) (fun C h0=>?_)
 simp only [argE]
 repeat' (first|(with_reducible apply zz1)|((with_reducible apply zz4);rfl)|((with_reducible apply zz2);rfl;intro K' hK';simp only [WD,simprocAttr];(repeat (constructor;focus (clear hK';intros;simp_all;done)));(try (apply hK';clear hK' K')))|((with_reducible apply zz3);rfl;refine ⟨_,rfl,fun h=>?_,fun h=>?_⟩ <;> try exact absurd h (by decide)))
 refine stop_callF rfl (by simp only [WD,simprocAttr]) rfl rfl (hc) ?_
 simp only [WD,simprocAttr,inX,dropS, ]
 (repeat (constructor;focus (clear hK';intros;simp_all;done)))
 (try (apply hK';clear hK' K'))
 repeat' (first|(with_reducible apply zz1)|((with_reducible apply zz4);rfl)|((with_reducible apply zz2);rfl;intro K' hK';simp only [WD,simprocAttr];(repeat (constructor;focus (clear hK';intros;simp_all;done)));(try (apply hK';clear hK' K')))|((with_reducible apply zz3);rfl;refine ⟨_,rfl,fun h=>?_,fun h=>?_⟩ <;> try exact absurd h (by decide)))
 simp only [Kret,retL,retOne,oneV,WD,simprocAttr]
def bdE (x y : Tp) (u : Int) : Int:=if bErr x y = 0 then bndE (ofP x) (ofP y) u else bErr x y
def bdR (x y : Tp) (u : Int) : List Nd:=if bErr x y = 0 then bndG (ofP x) (ofP y) u else []
def sgB (i : Nat) : Nat:=if i = 0 then 4 else if i = 1 then 3 else i + 3
theorem sgB_inj (i j : Nat) (h : sgB i = sgB j) : i = j:=by
 unfold sgB at h
 split at h <;> split at h <;> (try split at h) <;> (try split at h) <;> omega
def bSt (A B : List D) (M : List (Value × Value)) (ns : List D) (sm fl : List D) : St:=[(4,.cells [.d (.slc A),.d (.slc B),.mp 3,.own 5,.own 6,.own 7]),(3,.mp M),(5,.row 4 ns),(6,.row 1 sm),(7,.row 1 fl)]
set_option maxHeartbeats 16000000 in
set_option maxRecDepth 100000 in
theorem bounded_ok (Γ : Gl) (hΓ : PowT Γ) (x y : Tp) (hc : bErr x y = 0) (u : Int) (hu : u = 0 ∨ u = 1) : DFn Tryd.prog Γ 59 [x.d,y.d,iD u] (.tup [.slc ((bndG (ofP x) (ofP y) u).map Nd.d),iD (bndE (ofP x) (ofP y) u)]):=by
 obtain ⟨hx,hy⟩:=bErr_zero hc
 have HA:=ofP_gd hx
 have HB:=ofP_gd hy
 have hof:=of2_fn Γ x y (of_fn Γ x) (of_fn Γ y)
 unfold bothD at hof
 rw [hc,if_pos hx] at hof
 generalize ofP x = A at *
 generalize ofP y = B at *
 obtain ⟨H,hp0,hcm⟩:=bd_full HA HB hu
 have a0:=HA.pos
 have b0:=HB.pos
 have hok : okK A.length B.length ⟨0,0,u⟩:=⟨.inr ⟨Int.le_refl _,by simp only;omega⟩,.inr ⟨Int.le_refl _,by simp only;omega⟩,(fun h=>absurd h.1 (show (0 : Int) ≠ -1 by decide)),hu⟩
 have hA : SFn Tryd.prog Γ 74 [.ref 4 0,.d (iD 0),.d (iD 0),.d (iD u)] (bSt (A.map Nd.d) (B.map Nd.d) [] [] [] []) (.d (iD (addB A B (bdF A B) ⟨0,0,u⟩ ⟨[],[],[],[]⟩).1))
  (bSt (A.map Nd.d) (B.map Nd.d) (mK (bdS A B u).ks) ((bdS A B u).ns.map Nd.d) ((bdS A B u).sm.map bD) ((bdS A B u).fl.map bD)) :=
  (add_fn Γ HA HB (bdF A B) ⟨0,0,u⟩ ⟨[],[],[],[]⟩ ⟨rfl,rfl,rfl,List.nodup_nil,fun q hq=>by cases hq⟩ hok (by simp [bdF])).ren sgB_inj
 have hn : (bdS A B u).ks.length ≤ 100000:=by
  have h1:=keys_len H.wf.nd H.wf.ok
  have h2 : (A.length + 1) * (B.length + 1) ≤ 201 * 201:=Nat.mul_le_mul (by have:=HA.le;omega) (by have:=HB.le;omega)
  omega
 obtain ⟨t1,t2⟩:=full_to HA HB H
 have hS : SFn Tryd.prog Γ 75 [.ref 4 0] (bSt (A.map Nd.d) (B.map Nd.d) (mK (bdS A B u).ks) ((bdS A B u).ns.map Nd.d) ((bdS A B u).sm.map bD) ((bdS A B u).fl.map bD)) (.tup [])
  (bSt (A.map Nd.d) (B.map Nd.d) (mK (bdS A B u).ks) ((bdS A B u).ns.map Nd.d) ((bdS A B u).sm.map bD) ((strikeP (bdS A B u)).map bD)) :=
  (strike_fn Γ A B (mK (bdS A B u).ks) (bdS A B u) H.wf.l1 H.wf.l2 H.wf.l3 hn t1).ren sgB_inj
 have hsl : (strikeP (bdS A B u)).length = (bdS A B u).ks.length:=(strike_ok H.wf.l3).1.ln.trans H.wf.l3
 have hL : (strikeP (bdS A B u)).getD 0 false = false → SFn Tryd.prog Γ 76 [.ref 4 0] (bSt (A.map Nd.d) (B.map Nd.d) (mK (bdS A B u).ks) ((bdS A B u).ns.map Nd.d) ((bdS A B u).sm.map bD) ((strikeP (bdS A B u)).map bD)) (.d (.slc ((bdL A B u).map Nd.d)))
  (bSt (A.map Nd.d) (B.map Nd.d) (mK (bdS A B u).ks) ((bdS A B u).ns.map Nd.d) ((bdS A B u).sm.map bD) ((strikeP (bdS A B u)).map bD)):=fun h =>
  (left_fn Γ A B (mK (bdS A B u).ks) (bdS A B u) (strikeP (bdS A B u)) H.wf.l1 hsl hn hp0 h t1 t2).ren sgB_inj
 have hF : DFn Tryd.prog Γ 65 [.slc ((bdL A B u).map Nd.d)] (.tup [.slc ((bndG A B u).map Nd.d),iD (bndE A B u)]) ∨ (strikeP (bdS A B u)).getD 0 false = true:=by
  cases hl : (strikeP (bdS A B u)).getD 0 false with
  | true=>exact .inr rfl
  | false =>
   obtain ⟨l1,l2,l3,l4⟩:=left_ok HA HB H hp0 hl
   refine .inl ?_
   have hbe : bndE A B u = if 200 < (bdL A B u).length then 2 else 0:=by
    unfold bndE
    rw [hl,if_neg (by decide)]
   unfold bndG
   rw [hbe]
   by_cases h2 : 200 < (bdL A B u).length
   · rw [if_pos h2,if_neg (by decide)]
     exact least_big Γ _ (by rw [List.length_map];exact h2)
   · rw [if_neg h2,if_pos rfl]
     exact least2_fn Γ hΓ _ l1 (by omega) l2 l3
 have hge : (strikeP (bdS A B u)).getD 0 false = true → bndE A B u = 8 ∧ bndG A B u = []:=fun h=>by
  have : bndE A B u = 8:=by unfold bndE;rw [if_pos h]
  exact ⟨this,by unfold bndG;rw [this,if_neg (by decide)]⟩
 have hgf : ((strikeP (bdS A B u)).map bD).getD 0 default = bD ((strikeP (bdS A B u)).getD 0 false):=by
  have h : 0 < (strikeP (bdS A B u)).length:=by omega
  simp [List.getD,h]
 have hlp : (0 : Int) < ((strikeP (bdS A B u)).length : Int):=by omega
 generalize bndE A B u = e at *
 generalize (bdL A B u).map Nd.d = Z at *
 generalize (bndG A B u) = G at *
 generalize strikeP (bdS A B u) = F at *
 generalize (addB A B (bdF A B) ⟨0,0,u⟩ ⟨[],[],[],[]⟩).1 = n at *
 generalize mK (bdS A B u).ks = M at *
 generalize (bdS A B u).ns.map Nd.d = N at *
 generalize (bdS A B u).sm.map bD = S at *
 generalize (bdS A B u).fl.map bD = F0 at *
 generalize A.map Nd.d = A' at *
 generalize B.map Nd.d = B' at *
 clear t1 t2 hsl hn H hcm hp0 hok
 generalize F.getD 0 false = v at *
 generalize hFm : F.map bD = F' at *
 have hFl : F'.length = F.length:=by rw [← hFm,List.length_map]
 simp only [bSt] at hA hS hL
 obtain ⟨k,so,nm,ls,l⟩:=x
 obtain ⟨k',so',nm',ls',l'⟩:=y
 simp only [Tp.d] at hof ⊢
 refine fn_of_swp (N:=43) Tryd.func59 rfl (by decide) rfl rfl (by simp) (fun C h0=>?_)
 simp only [argE]
 repeat' (first|(with_reducible apply zz1)|((with_reducible apply zz4);rfl)|((with_reducible apply zz2);rfl;intro K' hK';simp only [WD,simprocAttr];(repeat (constructor;focus (clear hK';intros;simp_all;done)));(try (apply hK';clear hK' K')))|((with_reducible apply zz3);rfl;refine ⟨_,rfl,fun h=>?_,fun h=>?_⟩ <;> try exact absurd h (by decide)))
 refine stop_call h0 rfl (by simp only [WD,simprocAttr]) rfl (by simp only [keepS,Option.isSome_some,WD,simprocAttr]) (hof) ?_
 simp only [WD,simprocAttr,inX,dropS, ]
 (repeat (constructor;focus (clear hK';intros;simp_all;done)))
 (try (apply hK';clear hK' K'))
 repeat' (first|(with_reducible apply zz1)|((with_reducible apply zz4);rfl)|((with_reducible apply zz2);rfl;intro K' hK';simp only [WD,simprocAttr];(repeat (constructor;focus (clear hK';intros;simp_all;done)));(try (apply hK';clear hK' K')))|((with_reducible apply zz3);rfl;refine ⟨_,rfl,fun h=>?_,fun h=>?_⟩ <;> try exact absurd h (by decide)))
 -- TRACE
 refine stop_sub (sub_nilB 4 3 5 4 rfl rfl rfl (by decide)) ?_
 simp only [WD,simprocAttr]
 refine stop_sub (sub_nilB 4 4 6 1 rfl rfl rfl (by decide)) ?_
 simp only [WD,simprocAttr]
 refine stop_sub (sub_nilB 4 5 7 1 rfl rfl rfl (by decide)) ?_
 simp only [WD,simprocAttr]
 refine stop_cS rfl (by simp only [UA,WD,simprocAttr]) (hA) ?_
 simp only [WD,simprocAttr,UM, ]
 (try (apply hK';clear hK' K'))
 repeat' (first|(with_reducible apply zz1)|((with_reducible apply zz4);rfl)|((with_reducible apply zz2);rfl;intro K' hK';simp only [WD,simprocAttr];(repeat (constructor;focus (clear hK';intros;simp_all;done)));(try (apply hK';clear hK' K')))|((with_reducible apply zz3);rfl;refine ⟨_,rfl,fun h=>?_,fun h=>?_⟩ <;> try exact absurd h (by decide)))
 refine stop_cS rfl (by simp only [UA,WD,simprocAttr]) (hS) ?_
 simp only [WD,simprocAttr,UM, ]
 (try (apply hK';clear hK' K'))
 cases v with
 | true =>
  obtain ⟨rfl,rfl⟩:=hge rfl
  repeat' (first|(with_reducible apply zz1)|((with_reducible apply zz4);rfl)|((with_reducible apply zz2);rfl;intro K' hK';simp only [WD,simprocAttr,hgf,hlp,hFl];(repeat (constructor;focus (clear hK';intros;simp_all;done)));(try (apply hK';clear hK' K')))|((with_reducible apply zz3);rfl;refine ⟨_,rfl,fun h=>?_,fun h=>?_⟩ <;> try exact absurd h (by decide)))
  simp only [Kret,retL,retOne,oneV,WD,simprocAttr,List.map_nil]
 | false =>
  have hL:=hL rfl
  have hF:=hF.resolve_right (by decide)
  repeat' (first|(with_reducible apply zz1)|((with_reducible apply zz4);rfl)|((with_reducible apply zz2);rfl;intro K' hK';simp only [WD,simprocAttr,hgf,hlp,hFl];(repeat (constructor;focus (clear hK';intros;simp_all;done)));(try (apply hK';clear hK' K')))|((with_reducible apply zz3);rfl;refine ⟨_,rfl,fun h=>?_,fun h=>?_⟩ <;> try exact absurd h (by decide)))
  refine stop_cS rfl (by simp only [UA,WD,simprocAttr]) (hL) ?_
  simp only [WD,simprocAttr,UM, ]
  (try (apply hK';clear hK' K'))
  refine stop_call h0 rfl (by simp only [WD,simprocAttr]) rfl (by simp only [keepS,Option.isSome_some,WD,simprocAttr]) (hF) ?_
  simp only [WD,simprocAttr,inX,dropS, ]
  (repeat (constructor;focus (clear hK';intros;simp_all;done)))
  (try (apply hK';clear hK' K'))
  repeat' (first|(with_reducible apply zz1)|((with_reducible apply zz4);rfl)|((with_reducible apply zz2);rfl;intro K' hK';simp only [WD,simprocAttr];(repeat (constructor;focus (clear hK';intros;simp_all;done)));(try (apply hK';clear hK' K')))|((with_reducible apply zz3);rfl;refine ⟨_,rfl,fun h=>?_,fun h=>?_⟩ <;> try exact absurd h (by decide)))
  simp only [Kret,retL,retOne,oneV,WD,simprocAttr]
set_option maxHeartbeats 16000000 in
set_option maxRecDepth 100000 in
theorem bounded_fn (Γ : Gl) (hΓ : PowT Γ) (x y : Tp) (u : Int) (hu : u = 0 ∨ u = 1) : DFn Tryd.prog Γ 59 [x.d,y.d,iD u] (.tup [.slc ((bdR x y u).map Nd.d),iD (bdE x y u)]):=by
 by_cases hc : bErr x y = 0
 · have:=bounded_ok Γ hΓ x y hc u hu
   unfold bdR bdE
   rw [if_pos hc,if_pos hc]
   exact this
 · have hof:=of2_fn Γ x y (of_fn Γ x) (of_fn Γ y)
   have g1 : (bErr x y != 0) = true:=by simpa using hc
   unfold bdR bdE
   rw [if_neg hc,if_neg hc]
   obtain ⟨A,B,hb⟩:=both_shape x y
   rw [hb] at hof
   generalize bErr x y = e at *
   obtain ⟨k,so,nm,ls,l⟩:=x
   obtain ⟨k',so',nm',ls',l'⟩:=y
   simp only [Tp.d] at hof ⊢
   clear hb
   refine fn_of_swp (N:=43) Tryd.func59 rfl (by decide) rfl rfl (by simp) (fun C h0=>?_)
   simp only [argE]
   repeat' (first|(with_reducible apply zz1)|((with_reducible apply zz4);rfl)|((with_reducible apply zz2);rfl;intro K' hK';simp only [WD,simprocAttr];(repeat (constructor;focus (clear hK';intros;simp_all;done)));(try (apply hK';clear hK' K')))|((with_reducible apply zz3);rfl;refine ⟨_,rfl,fun h=>?_,fun h=>?_⟩ <;> try exact absurd h (by decide)))
   refine stop_call h0 rfl (by simp only [WD,simprocAttr]) rfl (by simp only [keepS,Option.isSome_some,WD,simprocAttr]) (hof) ?_
   simp only [WD,simprocAttr,inX,dropS, ]
   (repeat (constructor;focus (clear hK';intros;simp_all;done)))
   (try (apply hK';clear hK' K'))
   repeat' (first|(with_reducible apply zz1)|((with_reducible apply zz4);rfl)|((with_reducible apply zz2);rfl;intro K' hK';simp only [WD,simprocAttr,g1];(repeat (constructor;focus (clear hK';intros;simp_all;done)));(try (apply hK';clear hK' K')))|((with_reducible apply zz3);rfl;refine ⟨_,rfl,fun h=>?_,fun h=>?_⟩ <;> try exact absurd h (by decide)))
   simp only [Kret,retL,retOne,oneV,WD,simprocAttr,List.map_nil]
set_option maxHeartbeats 4000000 in
set_option maxRecDepth 100000 in
theorem join_fn (Γ : Gl) (hΓ : PowT Γ) (x y : Tp) : DFn Tryd.prog Γ 23 [x.d,y.d] (.tup [.slc ((bdR x y 1).map Nd.d),iD (bdE x y 1)]):=by
 have hb:=bounded_fn Γ hΓ x y 1 (.inr rfl)
 generalize (bdR x y 1).map Nd.d = R at *
 generalize bdE x y 1 = e at *
 obtain ⟨k,so,nm,ls,l⟩:=x
 obtain ⟨k',so',nm',ls',l'⟩:=y
 simp only [Tp.d] at hb ⊢
 refine fn_of_swp (N:=11) Tryd.func23 rfl (by decide) rfl rfl (by simp) (fun C h0=>?_)
 simp only [argE]
 repeat' (first|(with_reducible apply zz1)|((with_reducible apply zz4);rfl)|((with_reducible apply zz2);rfl;intro K' hK';simp only [WD,simprocAttr];(repeat (constructor;focus (clear hK';intros;simp_all;done)));(try (apply hK';clear hK' K')))|((with_reducible apply zz3);rfl;refine ⟨_,rfl,fun h=>?_,fun h=>?_⟩ <;> try exact absurd h (by decide)))
 refine stop_call h0 rfl (by simp only [WD,simprocAttr]) rfl (by simp only [keepS,Option.isSome_some,WD,simprocAttr]) (hb) ?_
 simp only [WD,simprocAttr,inX,dropS, ]
 (repeat (constructor;focus (clear hK';intros;simp_all;done)))
 (try (apply hK';clear hK' K'))
 repeat' (first|(with_reducible apply zz1)|((with_reducible apply zz4);rfl)|((with_reducible apply zz2);rfl;intro K' hK';simp only [WD,simprocAttr];(repeat (constructor;focus (clear hK';intros;simp_all;done)));(try (apply hK';clear hK' K')))|((with_reducible apply zz3);rfl;refine ⟨_,rfl,fun h=>?_,fun h=>?_⟩ <;> try exact absurd h (by decide)))
 simp only [Kret,retL,retOne,oneV,WD,simprocAttr]
set_option maxHeartbeats 4000000 in
set_option maxRecDepth 100000 in
theorem meet_fn (Γ : Gl) (hΓ : PowT Γ) (x y : Tp) : DFn Tryd.prog Γ 24 [x.d,y.d] (.tup [.slc ((bdR x y 0).map Nd.d),iD (bdE x y 0)]):=by
 have hb:=bounded_fn Γ hΓ x y 0 (.inl rfl)
 generalize (bdR x y 0).map Nd.d = R at *
 generalize bdE x y 0 = e at *
 obtain ⟨k,so,nm,ls,l⟩:=x
 obtain ⟨k',so',nm',ls',l'⟩:=y
 simp only [Tp.d] at hb ⊢
 refine fn_of_swp (N:=11) Tryd.func24 rfl (by decide) rfl rfl (by simp) (fun C h0=>?_)
 simp only [argE]
 repeat' (first|(with_reducible apply zz1)|((with_reducible apply zz4);rfl)|((with_reducible apply zz2);rfl;intro K' hK';simp only [WD,simprocAttr];(repeat (constructor;focus (clear hK';intros;simp_all;done)));(try (apply hK';clear hK' K')))|((with_reducible apply zz3);rfl;refine ⟨_,rfl,fun h=>?_,fun h=>?_⟩ <;> try exact absurd h (by decide)))
 refine stop_call h0 rfl (by simp only [WD,simprocAttr]) rfl (by simp only [keepS,Option.isSome_some,WD,simprocAttr]) (hb) ?_
 simp only [WD,simprocAttr,inX,dropS, ]
 (repeat (constructor;focus (clear hK';intros;simp_all;done)))
 (try (apply hK';clear hK' K'))
 repeat' (first|(with_reducible apply zz1)|((with_reducible apply zz4);rfl)|((with_reducible apply zz2);rfl;intro K' hK';simp only [WD,simprocAttr];(repeat (constructor;focus (clear hK';intros;simp_all;done)));(try (apply hK';clear hK' K')))|((with_reducible apply zz3);rfl;refine ⟨_,rfl,fun h=>?_,fun h=>?_⟩ <;> try exact absurd h (by decide)))
 simp only [Kret,retL,retOne,oneV,WD,simprocAttr]
end Go.Proofs.YtgecnlcbdbaneaaDoor
/- comply.stuck; a symbolic walk (turned from H8). -/
-- TYPESB
namespace Go.Proofs.YtgecnlcbdbaneaaDoor
open Go.RowKit Go.Sw

end Go.Proofs.YtgecnlcbdbaneaaDoor
/- comply.of, Do, the law ComplyBelow; a symbolic walk. -/
-- TYPESB
namespace Go.Proofs.YtgecnlcbdbaneaaDoor
open Go.RowKit Go.Sw

end Go.Proofs.YtgecnlcbdbaneaaDoor
/- Two get on just if the one's other end is below the other one: by trees. -/
namespace Go.Proofs.YtgecnlcbdbaneaaDoor
open Go.RowKit Go.Sw

end Go.Proofs.YtgecnlcbdbaneaaDoor
/- comply.stuck: there is none just if they get on; ComplyBelow in plain words. -/
namespace Go.Proofs.YtgecnlcbdbaneaaDoor
open Go.RowKit Go.Sw

end Go.Proofs.YtgecnlcbdbaneaaDoor
/- The law BelowBound; a symbolic walk. -/
-- TYPESD
namespace Go.Proofs.YtgecnlcbdbaneaaDoor
open Go.RowKit Go.Sw

theorem first_join : bdE endT endT 1 = 0 ∧ (bdR endT endT 1).length = 1:=by decide +kernel
theorem bndE_val (a b : List Nd) (u : Int) : bndE a b u = 0 ∨ bndE a b u = 2 ∨ bndE a b u = 8:=by
 unfold bndE
 split
 · simp
 · split <;> simp
end Go.Proofs.YtgecnlcbdbaneaaDoor
/- Both ends change places: plain. -/
namespace Go.Proofs.YtgecnlcbdbaneaaDoor
open Go.RowKit Go.Sw

abbrev Que:=List (Pc × Int)
def hasE (p : Pc) (qu : Que) : Bool:=qu.any fun q=>decide (p = q.1)
def addE (d : Int) (qu : Que) (s : ByteArray × Pc) : Que:=if hasE s.2 qu = true then qu else qu ++ [(s.2,d + 1)]
theorem hasE_mem {p : Pc} {qu : Que} : hasE p qu = true ↔ p ∈ qu.map (·.1):=by
 unfold hasE
 rw [List.any_eq_true]
 simp only [decide_eq_true_eq,List.mem_map]
 exact ⟨fun ⟨q,h,e⟩=>⟨q,h,e.symm⟩,fun ⟨q,h,e⟩=>⟨q,h,e.symm⟩⟩
structure QE (n m : Nat) (qu : Que) : Prop where
 nd : (qu.map (·.1)).Nodup
 r : ∀ q ∈ qu,(0 ≤ q.1.a ∧ q.1.a < (n : Int)) ∧ 0 ≤ q.1.b ∧ q.1.b < (m : Int)
 p : ∀ (i : Nat) (q : Pc × Int),qu[i]? = some q → 1 ≤ q.2 ∧ q.2 ≤ (i : Int) + 1
theorem QE.add {n m : Nat} {qu : Que} (h : QE n m qu) {d : Int} {k : Nat} (hd : 1 ≤ d ∧ d ≤ (k : Int) + 1) (hk : k < qu.length) {s : ByteArray × Pc} (hs : (0 ≤ s.2.a ∧ s.2.a < (n : Int)) ∧ 0 ≤ s.2.b ∧ s.2.b < (m : Int)) : QE n m (addE d qu s):=by
 unfold addE
 split
 · exact h
 · rename_i hn
   refine ⟨?_,fun q hq=>?_,fun i q hq=>?_⟩
   · rw [List.map_append,List.nodup_append]
     refine ⟨h.nd,by simp,fun a ha b hb e=>?_⟩
     rw [show b = s.2 by simpa using hb] at e
     exact hn (hasE_mem.2 (e ▸ ha))
   · rcases List.mem_append.1 hq with hq | hq
     · exact h.r q hq
     · rw [show q = (s.2,d + 1) by simpa using hq];exact hs
   · by_cases hi : i < qu.length
     · rw [List.getElem?_append_left hi] at hq
       exact h.p i q hq
     · rw [List.getElem?_append_right (by omega)] at hq
       cases hj : i - qu.length with
       | zero =>
        rw [hj] at hq
        rw [show q = (s.2,d + 1) by simpa using hq.symm]
        simp only
        omega
       | succ j=>rw [hj] at hq;simp at hq
theorem QE.len {n m : Nat} {qu : Que} (h : QE n m qu) : qu.length ≤ n * m:=by
 have hq : QC n m (qu.map fun q=>(q.1,[])):=⟨by rw [List.map_map];exact h.nd,fun q hq=>by
  obtain ⟨r,hr,rfl⟩:=List.mem_map.1 hq
  exact h.r r hr,fun i q hq=>by
  rw [List.getElem?_map] at hq
  cases hx : qu[i]? with
  | none=>rw [hx] at hq;cases hq
  | some r=>rw [hx] at hq;cases hq;simp⟩
 have:=hq.len
 simpa using this
end Go.Proofs.YtgecnlcbdbaneaaDoor
