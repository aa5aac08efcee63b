/- comply.Ends, comply.Stuck, duetkeep.back; a symbolic walk. -/
import Derived.Test.YtgecnlcbdbaneaaDoorHC3
import Derived.Test.YtgecnlcbdbaneaaDoorKB2
import Derived.Test.YtgecnlcbdbaneaaDoorH28
import Derived.Test.YtgecnlcbdbaneaaDoorHQ4
import Derived.Test.YtgecnlcbdbaneaaDoorH17
import Derived.Test.YtgecnlcbdbaneaaDoorU6
import Derived.Lib.LaidTab
-- TYPESC
set_option linter.unusedVariables false
set_option linter.unusedSimpArgs false
namespace Go.Proofs.YtgecnlcbdbaneaaDoor
open Go.RowKit Go.Sw

theorem QE.pos {n m : Nat} {qu : Que} (h : QE n m qu) {q : Pc × Int} (hq : q ∈ qu) : 1 ≤ q.2 ∧ q.2 ≤ 40000 + 1 ∨ n * m > 40000:=by
 obtain ⟨i,hi,rfl⟩:=List.mem_iff_getElem.1 hq
 have h1:=h.p i _ (List.getElem?_eq_getElem hi)
 have h2:=h.len
 by_cases hb : n * m > 40000
 · exact .inr hb
 · exact .inl ⟨h1.1,by omega⟩
set_option maxHeartbeats 8000000 in
set_option maxRecDepth 100000 in
theorem xj3 (Γ : Gl) {g : List Nd} (Hg : Gd g) : DFn Tryd.prog Γ 21 [.slc (g.map Nd.d),iD 0] (if (vp1 g).2 = true then .tup [(vp1 g).1.d,bD true] else .tup [tp0.d,bD false]):=by
 have hB:=Back_fn Γ Hg
 unfold BackA at hB
 generalize vp1 g = r at *
 obtain ⟨z,v⟩:=r
 generalize g.map Nd.d = A at *
 obtain ⟨zk,zso,znm,zls,zl⟩:=z
 simp only [Tp.d,tp0,Tp.ds,List.map_nil] at hB ⊢
 cases v with
 | true =>
  rw [if_pos rfl] at hB ⊢
  refine qa4 (N:=18) Tryd.func21 rfl (by decide) rfl rfl (by simp) (fun C h0=>?_)
  simp only [qj1]
  repeat' (first|(with_reducible apply zz1)|((with_reducible apply zz2);rfl;intro K' hK';simp only [WC,simprocAttr,bne_self_eq_false];(repeat (constructor;focus (clear hK';intros;simp_all;done)));(try (apply hK';clear hK' K')))|((with_reducible apply zz3);rfl;all_goals (intro h;try exact absurd h (by decide))))
  refine qb4 h0 rfl (by simp only [WC,simprocAttr]) rfl (by simp only [qe6,Option.isSome_some,WC,simprocAttr]) (hB) ?_
  simp only [WC,simprocAttr,inX,qc7, ]
  (repeat (constructor;focus (clear hK';intros;simp_all;done)))
  (try (apply hK';clear hK' K'))
  repeat' (first|(with_reducible apply zz1)|((with_reducible apply zz2);rfl;intro K' hK';simp only [WC,simprocAttr,beq_self_eq_true];(repeat (constructor;focus (clear hK';intros;simp_all;done)));(try (apply hK';clear hK' K')))|((with_reducible apply zz3);rfl;all_goals (intro h;try exact absurd h (by decide))))
  simp only [qf7,qd5,qa2,qd6,WC,simprocAttr]
 | false =>
  rw [if_neg (by decide)] at hB ⊢
  refine qa4 (N:=18) Tryd.func21 rfl (by decide) rfl rfl (by simp) (fun C h0=>?_)
  simp only [qj1]
  repeat' (first|(with_reducible apply zz1)|((with_reducible apply zz2);rfl;intro K' hK';simp only [WC,simprocAttr,bne_self_eq_false];(repeat (constructor;focus (clear hK';intros;simp_all;done)));(try (apply hK';clear hK' K')))|((with_reducible apply zz3);rfl;all_goals (intro h;try exact absurd h (by decide))))
  have e20 : ((2 : Int) == 0) = false:=by decide
  refine qb4 h0 rfl (by simp only [WC,simprocAttr]) rfl (by simp only [qe6,Option.isSome_some,WC,simprocAttr]) (hB) ?_
  simp only [WC,simprocAttr,inX,qc7, ]
  (repeat (constructor;focus (clear hK';intros;simp_all;done)))
  (try (apply hK';clear hK' K'))
  repeat' (first|(with_reducible apply zz1)|((with_reducible apply zz2);rfl;intro K' hK';simp only [WC,simprocAttr,e20];(repeat (constructor;focus (clear hK';intros;simp_all;done)));(try (apply hK';clear hK' K')))|((with_reducible apply zz3);rfl;all_goals (intro h;try exact absurd h (by decide))))
  simp only [qf7,qd5,qa2,qd6,WC,simprocAttr]
end Go.Proofs.YtgecnlcbdbaneaaDoor
/- The law ComplyDual; a symbolic walk. -/
-- TYPESC
namespace Go.Proofs.YtgecnlcbdbaneaaDoor
open Go.RowKit Go.Sw

end Go.Proofs.YtgecnlcbdbaneaaDoor
/- The other end of the least above both is the greatest below both other ends; who gets on with two gets on with their Meet: plain. -/
namespace Go.Proofs.YtgecnlcbdbaneaaDoor
open Go.RowKit Go.Sw

theorem Gw.dual {g : List Nd} (H : Gw g) : Gw (qj5 g):=⟨by rw [qx9];have:=H.pos;omega,(vl5 H.ok H.sh).1,(vl5 H.ok H.sh).2⟩
theorem Gw.in0 {g : List Nd} (H : Gw g) : inr g 0:=⟨Int.le_refl _,by have:=H.pos;omega⟩
section
variable {a b a' b' : List Nd}
end
theorem xb4 {x y : Tp} (h : qs6 x y = 0) : doP x y = true ↔ ∀ n,qh7 n (dT n (trT x n)) (trT y n):=by
 obtain ⟨hx,hy⟩:=qi6 h
 rw [do_iff h]
 constructor
 · intro k n
   have:=(vu9 n _ _ (vt5 n _ (xn3 hy n)) (xn3 hx n)).2 (k n)
   rwa [xx8] at this
 · intro k n
   have:=(vu9 n _ _ (vt5 n _ (xn3 hx n)) (xn3 hy n)).2 (k n)
   rwa [xx8] at this
theorem yd3 {x y z : Tp} (h1 : qs6 x y = 0) (h2 : qs6 x z = 0) (h3 : doP x y = true) (h4 : doP x z = true) : vd7 (ofP y) (ofP z) 0 ≠ 8 ∧ (vd7 (ofP y) (ofP z) 0 = 0 → ∀ n,qh7 n (dT n (trT x n)) (obs (vp4 (ofP y) (ofP z) 0) n 0)):=by
 obtain ⟨hx,hy⟩:=qi6 h1
 obtain ⟨-,hz⟩:=qi6 h2
 have D:=dG_gd hx
 have hd:=(vl8 hx).2.2.2.2
 have k:=yu6 (qo7 hy) (qo7 hz) D.w (u:=0) (v:=0) (.inl rfl) D.w.in0
  (fun n=>qe5.2 (by rw [hd,qy2 hy];exact (xb4 h1).1 h3 n))
  (fun n=>qe5.2 (by rw [hd,qy2 hz];exact (xb4 h2).1 h4 n))
 refine ⟨k.1,fun hf n=>?_⟩
 have:=qe5.1 (k.2 hf n)
 rwa [hd] at this
theorem meet_do {x y z P : Tp} (h1 : qs6 x y = 0) (h2 : qs6 x z = 0) (he : vd7 (ofP y) (ofP z) 0 = 0) (hP : qd9 P = 0) (ho : ∀ n,trT P n = obs (vp4 (ofP y) (ofP z) 0) n 0) : doP x P = (doP x y && doP x z):=by
 obtain ⟨hx,hy⟩:=qi6 h1
 obtain ⟨-,hz⟩:=qi6 h2
 obtain ⟨-, -,HM,k2,k3⟩:=vu6 (qo7 hy) (qo7 hz) (.inl rfl) he
 rw [Bool.eq_iff_iff,Bool.and_eq_true,xb4 (vt3 hx hP)]
 constructor
 · intro k
   refine ⟨(xb4 h1).2 fun n=>?_,(xb4 h2).2 fun n=>?_⟩
   · have a1:=k n
     rw [ho] at a1
     have a2:=qe5.1 (k2 n)
     rw [qy2 hy] at a2
     exact vl3 n _ _ _ a1 a2
   · have a1:=k n
     rw [ho] at a1
     have a2:=qe5.1 (k3 n)
     rw [qy2 hz] at a2
     exact vl3 n _ _ _ a1 a2
 · rintro ⟨a1,a2⟩ n
   rw [ho]
   exact (yd3 h1 h2 a1 a2).2 he n
end Go.Proofs.YtgecnlcbdbaneaaDoor
/- The law ComplyMeet; a symbolic walk. -/
-- TYPESD
namespace Go.Proofs.YtgecnlcbdbaneaaDoor
open Go.RowKit Go.Sw
open _root_.Bool renaming not_true → za, not_false → zb
open _root_.Option renaming isSome_some → ze

set_option maxHeartbeats 16000000 in
set_option maxRecDepth 100000 in
theorem vv3 (Γ : Gl) (hΓ : yv2 Γ) (x y z : Tp) : DFn Tryd.prog Γ 8 [x.d,y.d,z.d] (.v (.bool true)):=by
 have hF:=ys4 Γ endT endT
 rw [xq5.1,xq5.2] at hF
 simp only [endT,Tp.d,Tp.ds,List.map_nil] at hF
 have hD1:=ys4 Γ x y
 have hD2:=ys4 Γ x z
 by_cases hc : qs6 x y = 0 ∧ qs6 x z = 0
 rotate_left
 · generalize qs6 x y = c1 at *
   generalize qs6 x z = c2 at *
   generalize doP x y = p at *
   generalize doP x z = q at *
   obtain ⟨k,so,nm,ls,l⟩:=x
   obtain ⟨k',so',nm',ls',l'⟩:=y
   obtain ⟨k2,so2,nm2,ls2,l2⟩:=z
   simp only [Tp.d] at hD1 hD2 ⊢
   refine qa4 (N:=89) Tryd.func8 rfl (by decide) rfl rfl (by simp) (fun C h0=>?_)
   simp only [qj1]
   repeat' (first|(with_reducible apply zz1)|((with_reducible apply zz2);rfl;intro K' hK';simp only [WD,simprocAttr];(repeat (constructor;focus (clear hK';intros;simp_all;done)));(try (apply hK';clear hK' K')))|((with_reducible apply zz3);rfl;all_goals (intro h;try exact absurd h (by decide))))
   refine qb4 h0 rfl (by simp only [WD,simprocAttr]) rfl (by simp only [qe6,ze,WD,simprocAttr]) (hF) ?_
   simp only [WD,simprocAttr,inX,qc7, ]
   (repeat (constructor;focus (clear hK';intros;simp_all;done)))
   (try (apply hK';clear hK' K'))
   repeat' (first|(with_reducible apply zz1)|((with_reducible apply zz2);rfl;intro K' hK';simp only [WD,simprocAttr,za,zb,cond_true,cond_false,bne_self_eq_false,beq_self_eq_true];(repeat (constructor;focus (clear hK';intros;simp_all;done)));(try (apply hK';clear hK' K')))|((with_reducible apply zz3);rfl;all_goals (intro h;try exact absurd h (by decide))))
   refine qb4 h0 rfl (by simp only [WD,simprocAttr]) rfl (by simp only [qe6,ze,WD,simprocAttr]) (hD1) ?_
   simp only [WD,simprocAttr,inX,qc7, ]
   (repeat (constructor;focus (clear hK';intros;simp_all;done)))
   (try (apply hK';clear hK' K'))
   repeat' (first|(with_reducible apply zz1)|((with_reducible apply zz2);rfl;intro K' hK';simp only [WD,simprocAttr];(repeat (constructor;focus (clear hK';intros;simp_all;done)));(try (apply hK';clear hK' K')))|((with_reducible apply zz3);rfl;all_goals (intro h;try exact absurd h (by decide))))
   refine qb4 h0 rfl (by simp only [WD,simprocAttr]) rfl (by simp only [qe6,ze,WD,simprocAttr]) (hD2) ?_
   simp only [WD,simprocAttr,inX,qc7, ]
   (repeat (constructor;focus (clear hK';intros;simp_all;done)))
   (try (apply hK';clear hK' K'))
   by_cases h1 : c1 = 0
   · have g1 : (c1 != 0) = false:=by simpa using h1
     have g2 : (c2 != 0) = true:=by simpa using fun h=>hc ⟨h1,h⟩
     repeat' (first|(with_reducible apply zz1)|((with_reducible apply zz2);rfl;intro K' hK';simp only [WD,simprocAttr,g1,g2,za,zb,cond_true,cond_false,bne_self_eq_false,beq_self_eq_true];(repeat (constructor;focus (clear hK';intros;simp_all;done)));(try (apply hK';clear hK' K')))|((with_reducible apply zz3);rfl;all_goals (intro h;try exact absurd h (by decide))))
     simp only [qf7,qd5,qa2,qd6,WD,simprocAttr]
   · have g1 : (c1 != 0) = true:=by simpa using h1
     repeat' (first|(with_reducible apply zz1)|((with_reducible apply zz2);rfl;intro K' hK';simp only [WD,simprocAttr,g1,za,zb,cond_true,cond_false,bne_self_eq_false,beq_self_eq_true];(repeat (constructor;focus (clear hK';intros;simp_all;done)));(try (apply hK';clear hK' K')))|((with_reducible apply zz3);rfl;all_goals (intro h;try exact absurd h (by decide))))
     simp only [qf7,qd5,qa2,qd6,WD,simprocAttr]
 obtain ⟨c1,c2⟩:=hc
 obtain ⟨tx,ty⟩:=qi6 c1
 obtain ⟨-,tz⟩:=qi6 c2
 have hM:=meet_fn Γ hΓ y z
 have e1 : bdE y z 0 = vd7 (ofP y) (ofP z) 0:=by unfold bdE;rw [if_pos (vt3 ty tz)]
 have e2 : bdR y z 0 = vp4 (ofP y) (ofP z) 0:=by unfold bdR;rw [if_pos (vt3 ty tz)]
 rw [e1,e2] at hM
 rw [c1] at hD1
 rw [c2] at hD2
 have hval:=yq3 (ofP y) (ofP z) 0
 have hno : vd7 (ofP y) (ofP z) 0 = 8 → doP x y = true → doP x z = true → False:=fun h h1 h2=>(yd3 c1 c2 h1 h2).1 h
 obtain ⟨P,v,hK,hv⟩ : ∃ (P : Tp) (v : Bool),(vd7 (ofP y) (ofP z) 0 = 0 → DFn Tryd.prog Γ 21 [.slc ((vp4 (ofP y) (ofP z) 0).map Nd.d),iD 0] (.tup [P.d,bD v])) ∧
  (vd7 (ofP y) (ofP z) 0 = 0 → v = true → doP x P = (doP x y && doP x z) ∧ qs6 x P = 0):=by
  by_cases he : vd7 (ofP y) (ofP z) 0 = 0
  · obtain ⟨-, -,HM, -, -⟩:=vu6 (qo7 ty) (qo7 tz) (.inl rfl) he
    have k:=xj3 Γ HM
    cases hv : (vp1 (vp4 (ofP y) (ofP z) 0)).2 with
    | false =>
     rw [hv,if_neg (by decide)] at k
     exact ⟨tp0,false,fun _=>k,fun _ e=>by cases e⟩
    | true =>
     rw [hv,if_pos rfl] at k
     obtain ⟨h1,h2⟩:=ye2 HM.pos HM.ok HM.sh HM.le hv
     exact ⟨_,true,fun _=>k,fun _ _=>⟨meet_do c1 c2 he h1 h2,vt3 tx h1⟩⟩
  · exact ⟨tp0,false,fun h=>absurd h he,fun h=>absurd h he⟩
 have hD3:=ys4 Γ x P
 clear e1 e2 c1 c2 tx ty tz
 generalize vd7 (ofP y) (ofP z) 0 = e at *
 generalize (vp4 (ofP y) (ofP z) 0).map Nd.d = M' at *
 generalize doP x y = p at *
 generalize doP x z = q at *
 generalize doP x P = r at *
 generalize qs6 x P = c3 at *
 obtain ⟨k,so,nm,ls,l⟩:=x
 obtain ⟨k',so',nm',ls',l'⟩:=y
 obtain ⟨k2,so2,nm2,ls2,l2⟩:=z
 obtain ⟨k3,so3,nm3,ls3,l3⟩:=P
 simp only [Tp.d] at hD1 hD2 hM hK hD3 ⊢
 refine qa4 (N:=89) Tryd.func8 rfl (by decide) rfl rfl (by simp) (fun C h0=>?_)
 simp only [qj1]
 repeat' (first|(with_reducible apply zz1)|((with_reducible apply zz2);rfl;intro K' hK';simp only [WD,simprocAttr];(repeat (constructor;focus (clear hK';intros;simp_all;done)));(try (apply hK';clear hK' K')))|((with_reducible apply zz3);rfl;all_goals (intro h;try exact absurd h (by decide))))
 refine qb4 h0 rfl (by simp only [WD,simprocAttr]) rfl (by simp only [qe6,ze,WD,simprocAttr]) (hF) ?_
 simp only [WD,simprocAttr,inX,qc7, ]
 (repeat (constructor;focus (clear hK';intros;simp_all;done)))
 (try (apply hK';clear hK' K'))
 repeat' (first|(with_reducible apply zz1)|((with_reducible apply zz2);rfl;intro K' hK';simp only [WD,simprocAttr,za,zb,cond_true,cond_false,bne_self_eq_false,beq_self_eq_true];(repeat (constructor;focus (clear hK';intros;simp_all;done)));(try (apply hK';clear hK' K')))|((with_reducible apply zz3);rfl;all_goals (intro h;try exact absurd h (by decide))))
 refine qb4 h0 rfl (by simp only [WD,simprocAttr]) rfl (by simp only [qe6,ze,WD,simprocAttr]) (hD1) ?_
 simp only [WD,simprocAttr,inX,qc7, ]
 (repeat (constructor;focus (clear hK';intros;simp_all;done)))
 (try (apply hK';clear hK' K'))
 repeat' (first|(with_reducible apply zz1)|((with_reducible apply zz2);rfl;intro K' hK';simp only [WD,simprocAttr];(repeat (constructor;focus (clear hK';intros;simp_all;done)));(try (apply hK';clear hK' K')))|((with_reducible apply zz3);rfl;all_goals (intro h;try exact absurd h (by decide))))
 refine qb4 h0 rfl (by simp only [WD,simprocAttr]) rfl (by simp only [qe6,ze,WD,simprocAttr]) (hD2) ?_
 simp only [WD,simprocAttr,inX,qc7, ]
 (repeat (constructor;focus (clear hK';intros;simp_all;done)))
 (try (apply hK';clear hK' K'))
 repeat' (first|(with_reducible apply zz1)|((with_reducible apply zz2);rfl;intro K' hK';simp only [WD,simprocAttr,za,zb,cond_true,cond_false,bne_self_eq_false,beq_self_eq_true];(repeat (constructor;focus (clear hK';intros;simp_all;done)));(try (apply hK';clear hK' K')))|((with_reducible apply zz3);rfl;all_goals (intro h;try exact absurd h (by decide))))
 refine qb4 h0 rfl (by simp only [WD,simprocAttr]) rfl (by simp only [qe6,ze,WD,simprocAttr]) (hM) ?_
 simp only [WD,simprocAttr,inX,qc7, ]
 (repeat (constructor;focus (clear hK';intros;simp_all;done)))
 (try (apply hK';clear hK' K'))
 rcases hval with rfl | rfl | rfl
 · have hK:=hK rfl
   have hv:=hv rfl
   repeat' (first|(with_reducible apply zz1)|((with_reducible apply zz2);rfl;intro K' hK';simp only [WD,simprocAttr,za,zb,cond_true,cond_false,bne_self_eq_false,beq_self_eq_true];(repeat (constructor;focus (clear hK';intros;simp_all;done)));(try (apply hK';clear hK' K')))|((with_reducible apply zz3);rfl;all_goals (intro h;try exact absurd h (by decide))))
   refine qb4 h0 rfl (by simp only [WD,simprocAttr]) rfl (by simp only [qe6,ze,WD,simprocAttr]) (hK) ?_
   simp only [WD,simprocAttr,inX,qc7, ]
   (repeat (constructor;focus (clear hK';intros;simp_all;done)))
   (try (apply hK';clear hK' K'))
   cases v with
   | false =>
    repeat' (first|(with_reducible apply zz1)|((with_reducible apply zz2);rfl;intro K' hK';simp only [WD,simprocAttr,za,zb,cond_true,cond_false,bne_self_eq_false,beq_self_eq_true];(repeat (constructor;focus (clear hK';intros;simp_all;done)));(try (apply hK';clear hK' K')))|((with_reducible apply zz3);rfl;all_goals (intro h;try exact absurd h (by decide))))
    simp only [qf7,qd5,qa2,qd6,WD,simprocAttr]
   | true =>
    obtain ⟨rfl,rfl⟩:=hv rfl
    repeat' (first|(with_reducible apply zz1)|((with_reducible apply zz2);rfl;intro K' hK';simp only [WD,simprocAttr,za,zb,cond_true,cond_false,bne_self_eq_false,beq_self_eq_true];(repeat (constructor;focus (clear hK';intros;simp_all;done)));(try (apply hK';clear hK' K')))|((with_reducible apply zz3);rfl;all_goals (intro h;try exact absurd h (by decide))))
    refine qb4 h0 rfl (by simp only [WD,simprocAttr]) rfl (by simp only [qe6,ze,WD,simprocAttr]) (hD3) ?_
    simp only [WD,simprocAttr,inX,qc7, ]
    (repeat (constructor;focus (clear hK';intros;simp_all;done)))
    (try (apply hK';clear hK' K'))
    cases p <;> cases q
    · repeat' (first|(with_reducible apply zz1)|((with_reducible apply zz2);rfl;intro K' hK';simp only [WD,simprocAttr,za,zb,cond_true,cond_false,bne_self_eq_false,beq_self_eq_true];(repeat (constructor;focus (clear hK';intros;simp_all;done)));(try (apply hK';clear hK' K')))|((with_reducible apply zz3);rfl;all_goals (intro h;try exact absurd h (by decide))))
      simp only [qf7,qd5,qa2,qd6,WD,simprocAttr]
      try rfl
    · repeat' (first|(with_reducible apply zz1)|((with_reducible apply zz2);rfl;intro K' hK';simp only [WD,simprocAttr,za,zb,cond_true,cond_false,bne_self_eq_false,beq_self_eq_true];(repeat (constructor;focus (clear hK';intros;simp_all;done)));(try (apply hK';clear hK' K')))|((with_reducible apply zz3);rfl;all_goals (intro h;try exact absurd h (by decide))))
      simp only [qf7,qd5,qa2,qd6,WD,simprocAttr]
      try rfl
    · repeat' (first|(with_reducible apply zz1)|((with_reducible apply zz2);rfl;intro K' hK';simp only [WD,simprocAttr,za,zb,cond_true,cond_false,bne_self_eq_false,beq_self_eq_true];(repeat (constructor;focus (clear hK';intros;simp_all;done)));(try (apply hK';clear hK' K')))|((with_reducible apply zz3);rfl;all_goals (intro h;try exact absurd h (by decide))))
      simp only [qf7,qd5,qa2,qd6,WD,simprocAttr]
      try rfl
    · repeat' (first|(with_reducible apply zz1)|((with_reducible apply zz2);rfl;intro K' hK';simp only [WD,simprocAttr,za,zb,cond_true,cond_false,bne_self_eq_false,beq_self_eq_true];(repeat (constructor;focus (clear hK';intros;simp_all;done)));(try (apply hK';clear hK' K')))|((with_reducible apply zz3);rfl;all_goals (intro h;try exact absurd h (by decide))))
      simp only [qf7,qd5,qa2,qd6,WD,simprocAttr]
      try rfl
 · repeat' (first|(with_reducible apply zz1)|((with_reducible apply zz2);rfl;intro K' hK';simp only [WD,simprocAttr,za,zb,cond_true,cond_false,bne_self_eq_false,beq_self_eq_true];(repeat (constructor;focus (clear hK';intros;simp_all;done)));(try (apply hK';clear hK' K')))|((with_reducible apply zz3);rfl;all_goals (intro h;try exact absurd h (by decide))))
   simp only [qf7,qd5,qa2,qd6,WD,simprocAttr]
 · have hno:=hno rfl
   cases p with
   | false =>
    repeat' (first|(with_reducible apply zz1)|((with_reducible apply zz2);rfl;intro K' hK';simp only [WD,simprocAttr,za,zb,cond_true,cond_false,bne_self_eq_false,beq_self_eq_true];(repeat (constructor;focus (clear hK';intros;simp_all;done)));(try (apply hK';clear hK' K')))|((with_reducible apply zz3);rfl;all_goals (intro h;try exact absurd h (by decide))))
    simp only [qf7,qd5,qa2,qd6,WD,simprocAttr]
    try rfl
   | true=>cases q with
    | false =>
     repeat' (first|(with_reducible apply zz1)|((with_reducible apply zz2);rfl;intro K' hK';simp only [WD,simprocAttr,za,zb,cond_true,cond_false,bne_self_eq_false,beq_self_eq_true];(repeat (constructor;focus (clear hK';intros;simp_all;done)));(try (apply hK';clear hK' K')))|((with_reducible apply zz3);rfl;all_goals (intro h;try exact absurd h (by decide))))
     simp only [qf7,qd5,qa2,qd6,WD,simprocAttr]
     try rfl
    | true=>exact (hno rfl rfl).elim
end Go.Proofs.YtgecnlcbdbaneaaDoor
/- The table of powers, where it is laid. -/
namespace Go.Proofs.YtgecnlcbdbaneaaDoor
open Go.RowKit Go.Sw

theorem vw3 : Tryd.prog.globalNamed "internal/strconv.uint64pow10" = some 2 := by kernel_rfl
theorem pow_of {laid : List (String × DataW Unit)} {W : World} (hp : (laid.filter fun x=>x.2.handleName?.isSome) = []) (h : laidMetH Tryd.prog laid W)
 (h3 : ("internal/strconv.uint64pow10", Rows.laid_internal_strconv_uint64pow10) ∈ laid) : Lib.TabIs Tryd.prog W "internal/strconv.uint64pow10" .u64 Lib.pow10Tab := by
 have h' : laidMet Tryd.prog laid W:=by
  unfold laidMetH at h
  rw [hp] at h
  exact h
 obtain ⟨g',t',cs,fuel,p,hg',ht',hvar,hd⟩:=Lib.laidMet.reads h' h3
 obtain rfl:=Option.some.inj (vw3.symm.trans hg')
 have e : (Rows.laid_internal_strconv_uint64pow10 : DataW Unit) = Lib.tabData .u64 Lib.pow10Tab:=by kernel_rfl
 rw [e] at hd
 unfold Lib.TabIs
 have ht2 : (Tryd.prog.globals[2]?).map (·.type) = some 186:=by kernel_rfl
 obtain rfl:=Option.some.inj (ht2.symm.trans ht')
 have hc:=Lib.cells_of_tab (n:=20) (e:=161) (by kernel_rfl) (by kernel_rfl) (by kernel_rfl) (by kernel_rfl) hd
 rw [hvar, ← hc]
theorem pow_GW {W : World} (h : Lib.TabIs Tryd.prog W "internal/strconv.uint64pow10" .u64 Lib.pow10Tab) : yv2 (GW W) := by
 intro w hw
 have hlt : 2 < W.heap.size:=by
  unfold Lib.TabIs World.var? at h
  rw [vw3] at h
  simp only [Option.bind_some] at h
  cases hb : W.heap[2]? with
  | none=>rw [hb] at h;cases h
  | some b=>exact (Array.getElem?_eq_some_iff.1 hb).1
 unfold Lib.TabIs World.var? at h ⊢
 rw [vw3] at h ⊢
 simp only [Option.bind_some] at h ⊢
 rw [hw 2 hlt]
 exact h
end Go.Proofs.YtgecnlcbdbaneaaDoor
