/- comply.meets; a symbolic walk. -/
-- TYPESB
import Derived.Test.YtgecnlcbdbaneaaDoorH26a
set_option linter.unusedVariables false
set_option linter.unusedSimpArgs false
namespace Go.Proofs.YtgecnlcbdbaneaaDoor
open Go.RowKit Go.Sw
open _root_.List renaming nil_append → za, cons_append → zb, length_map → ze, map_nil → zm, map_cons → zq, getD_eq_getElem?_getD → zu, getElem?_eq_getElem → zw, getElem_mem → zy
open _root_.Int renaming reduceBEq → zf
open _root_.Bool renaming not_true → zh, not_false → zi, true_and → zn, false_and → zo
open Nat renaming reduceAdd → zn2

set_option maxHeartbeats 16000000 in
set_option maxRecDepth 100000 in
theorem yv1 (Γ : Gl) (g h : List Nd) (p : Pc) (ha0 : 0 ≤ p.a) (ha1 : p.a < (g.length : Int)) (hb0 : 0 ≤ p.b) (hb1 : p.b < (h.length : Int)) (Hg : Gd g) (Hh : Gd h) :
 DFn Tryd.prog Γ 58 [.slc (g.map Nd.d),.slc (h.map Nd.d),p.d] (qs5 (qq0 g h p)):=by
 have hga:=qq3 ha0 ha1
 have hgb:=qq3 hb0 hb1
 obtain ⟨R,hR⟩ : ∃ R,qq0 g h p = R:=⟨_,rfl⟩
 rw [hR]
 unfold qq0 at hR
 have hk:=yg4 Γ (gAt g p.a).k
 have okX:=Hg.ok _ (qd0 ha0 ha1)
 have okY:=Hh.ok _ (qd0 hb0 hb1)
 have hX:=okX.sh
 have hY:=okY.sh
 have rX:=okX.ok.r
 have rY:=okY.ok.r
 have shX:=Hg.sh _ (qd0 ha0 ha1)
 clear okX okY
 generalize hXe : gAt g p.a = X at *
 generalize hYe : gAt h p.b = Y at *
 obtain ⟨xk,xso,xls,xto⟩:=X
 obtain ⟨yk,yso,yls,yto⟩:=Y
 obtain ⟨a,b⟩:=p
 obtain ⟨hX1,hX2,hX3,hX6⟩:=hX
 obtain ⟨hY1,hY2,hY3,hY6⟩:=hY
 simp only [Nd.d] at hga hgb
 simp only at hX1 hX2 hX3 hX6 hY1 hY2 hY3 hY6 hk hR ha0 ha1 hb0 hb1 rX rY shX
 have q0 : ∀ (l : List Int) (i : Nat),i < l.length → (l.map iD).getD i default = iD (l.getD i 0):=fun l i hi=>by simp [List.getD,hi]
 simp only [Pc.d]
 by_cases hcc : (xk = 6 ∨ xk = 7) ∧ yk = qg4 xk ∧ xso = yso
 · obtain ⟨h67,hkk,hss⟩:=hcc
   rw [if_neg (by simpa using hkk),if_neg (by simpa using hss),if_neg (by omega),if_neg (by omega),if_pos h67] at hR
   exact xw3 Γ g h a b ha0 ha1 hb0 hb1 xk xso xls xto yk yso yls yto hXe hYe hX3 hY3 hX6 hY6 hkk hss h67 R hR
 refine qa4 (N:=152) Tryd.func58 rfl (by decide) rfl rfl (by simp) (fun C h0=>?_)
 simp only [qj1]
 repeat' (first|(with_reducible apply zz1)|((with_reducible apply zz2);rfl;intro K' hK';simp only [WB,simprocAttr];(repeat (constructor;focus (clear hK';intros;simp_all;done)));(try (apply hK';clear hK' K')))|((with_reducible apply zz3);rfl;all_goals (intro h;try exact absurd h (by decide))))
 (with_reducible refine qa6 ?_ ?_ ?_ (⟨⟨[],[]⟩,[],[],[],[]⟩) _ rfl (fun K' hK' gops fin hgops hfin=>?_)
  · kernel_rfl
  · rfl
  · rfl
  repeat' first
   | (refine qa9 rfl trivial (by simp only [WB,simprocAttr,UX,UA];rfl) (by simp only [za,zb];rfl) (by simp only [zn2];rfl) ?_)
   | (refine qa8 rfl rfl trivial (by simp only [WB,simprocAttr,UX,UA,ha0,ha1,hb0,hb1,hga,hgb,ze ];rfl) ?_ (by simp only [WB,simprocAttr,UX,UA];rfl) (by simp only [WB,simprocAttr,UX,UA];rfl) (by simp only [za,zb];rfl) (by simp only [zn2];rfl) ?_;focus (first | trivial | ((repeat' constructor) <;> first | trivial | assumption | (clear hK' hfin hgops;intros;simp_all;done))))
  (refine qb5 (by subst hfin;kernel_rfl) ?_)
  clear hfin hgops fin gops
  (try (apply hK';clear hK' K')))
 repeat' (first|(with_reducible apply zz1)|((with_reducible apply zz2);rfl;intro K' hK';simp only [WB,simprocAttr];(repeat (constructor;focus (clear hK';intros;simp_all;done)));(try (apply hK';clear hK' K')))|((with_reducible apply zz3);rfl;all_goals (intro h;try exact absurd h (by decide))))
 by_cases hkk : yk = qg4 xk
 · rw [if_neg (by simpa using hkk)] at hR
   have gk : (yk != qg4 xk) = false:=by simpa using hkk
   by_cases hss : xso = yso
   · rw [if_neg (by simpa using hss)] at hR
     have gs : (xso != yso) = false:=by simpa using hss
     (with_reducible refine qi1 ?_ ?_ ?_ ( [(4,iD (qg4 xk))]) (fun K' hK'=>?_)
      · kernel_rfl
      · rfl
      · rfl
      simp only [WB,simprocAttr,UG,hk,gk,gs,zh,zi,zn,zo,false_implies,cond_true,cond_false ]
      (try (apply hK';clear hK' K')))
     by_cases h23 : xk = 2 ∨ xk = 3
     · rw [if_pos h23] at hR
       subst hR
       have x0 : (0 : Int) < (xto.length : Int):=by have:=hX1 h23;omega
       have y0 : (0 : Int) < (yto.length : Int):=by have:=hY1 (by rw [hkk];rcases h23 with rfl | rfl <;> decide);omega
       have qx:=q0 xto 0 (by omega)
       have qy:=q0 yto 0 (by omega)
       rcases h23 with rfl | rfl
       all_goals
        repeat' (first|(with_reducible apply zz1)|((with_reducible apply zz2);rfl;intro K' hK';simp only [WB,simprocAttr,zf];(repeat (constructor;focus (clear hK';intros;simp_all;done)));(try (apply hK';clear hK' K')))|((with_reducible apply zz3);rfl;all_goals (intro h;try exact absurd h (by decide))))
        (with_reducible refine qa6 ?_ ?_ ?_ (⟨⟨[],[]⟩,[],[],[],[]⟩) _ rfl (fun K' hK' gops fin hgops hfin=>?_)
         · kernel_rfl
         · rfl
         · rfl
         repeat' first
          | (refine qa9 rfl trivial (by simp only [WB,simprocAttr,UX,UA];rfl) (by simp only [za,zb];rfl) (by simp only [zn2];rfl) ?_)
          | (refine qa8 rfl rfl trivial (by simp only [WB,simprocAttr,UX,UA,x0,y0,qx,qy,vy0,ze ];rfl) ?_ (by simp only [WB,simprocAttr,UX,UA];rfl) (by simp only [WB,simprocAttr,UX,UA];rfl) (by simp only [za,zb];rfl) (by simp only [zn2];rfl) ?_;focus (first | trivial | ((repeat' constructor) <;> first | trivial | assumption | (clear hK' hfin hgops;intros;simp_all;done))))
         (refine qb5 (by subst hfin;kernel_rfl) ?_)
         clear hfin hgops fin gops
         (try (apply hK';clear hK' K')))
        repeat' (first|(with_reducible apply zz1)|((with_reducible apply zz2);rfl;intro K' hK';simp only [WB,simprocAttr];(repeat (constructor;focus (clear hK';intros;simp_all;done)));(try (apply hK';clear hK' K')))|((with_reducible apply zz3);rfl;all_goals (intro h;try exact absurd h (by decide))))
        simp only [qf7,qd5,qa2,qd6,WB,simprocAttr,qs5,zq,zm,Pc.d]
     rw [if_neg h23] at hR
     by_cases h45 : xk = 4 ∨ xk = 5
     · rw [if_pos h45] at hR
       have xl:=hX2 h45
       have yl:=hY2 (by rw [hkk];rcases h45 with rfl | rfl <;> decide)
       have x0 : (0 : Int) < (xto.length : Int):=by omega
       have y0 : (0 : Int) < (yto.length : Int):=by omega
       have x1 : (1 : Int) < (xto.length : Int):=by omega
       have y1 : (1 : Int) < (yto.length : Int):=by omega
       have qx0:=q0 xto 0 (by omega)
       have qy0:=q0 yto 0 (by omega)
       have qx1:=q0 xto 1 (by omega)
       have qy1:=q0 yto 1 (by omega)
       have rx0 : 0 ≤ xto.getD 0 0 ∧ xto.getD 0 0 < (g.length : Int):=rX _ (by rw [zu,zw (by omega),Option.getD_some];exact zy _)
       have ry0 : 0 ≤ yto.getD 0 0 ∧ yto.getD 0 0 < (h.length : Int):=rY _ (by rw [zu,zw (by omega),Option.getD_some];exact zy _)
       have hA:=yy4 Γ Hg rx0
       have hB:=yy4 Γ Hh ry0
       have hG1:=vs6 Γ (Hg.at rx0) (Hh.at ry0)
       have hG2:=vs6 Γ (Hh.at ry0) (Hg.at rx0)
       unfold xd0 at hR
       simp only at hR
       generalize (atP g (xto.getD 0 0)) = AG at *
       generalize (atP h (yto.getD 0 0)) = AH at *
       generalize xto.getD 0 0 = X0 at *
       generalize yto.getD 0 0 = Y0 at *
       generalize xto.getD 1 0 = X1 at *
       generalize yto.getD 1 0 = Y1 at *
       rcases h45 with rfl | rfl
       · simp only [if_neg (show ¬ (4 : Int) = 5 by decide)] at hR
         generalize yw3 AG AH = cr at *
         repeat' (first|(with_reducible apply zz1)|((with_reducible apply zz2);rfl;intro K' hK';simp only [WB,simprocAttr,zf];(repeat (constructor;focus (clear hK';intros;simp_all;done)));(try (apply hK';clear hK' K')))|((with_reducible apply zz3);rfl;all_goals (intro h;try exact absurd h (by decide))))
         (with_reducible refine qa6 ?_ ?_ ?_ (⟨⟨[],[]⟩,[],[],[],[]⟩) _ rfl (fun K' hK' gops fin hgops hfin=>?_)
          · kernel_rfl
          · rfl
          · rfl
          repeat' first
           | (refine qa9 rfl trivial (by simp only [WB,simprocAttr,UX,UA];rfl) (by simp only [za,zb];rfl) (by simp only [zn2];rfl) ?_)
           | (refine qa8 rfl rfl trivial (by simp only [WB,simprocAttr,UX,UA,ze ];rfl) ?_ (by simp only [WB,simprocAttr,UX,UA];rfl) (by simp only [WB,simprocAttr,UX,UA];rfl) (by simp only [za,zb];rfl) (by simp only [zn2];rfl) ?_;focus (first | trivial | ((repeat' constructor) <;> first | trivial | assumption | (clear hK' hfin hgops;intros;simp_all;done))))
          (refine qb5 (by subst hfin;kernel_rfl) ?_)
          clear hfin hgops fin gops
          (try (apply hK';clear hK' K')))
         repeat' (first|(with_reducible apply zz1)|((with_reducible apply zz2);rfl;intro K' hK';simp only [WB,simprocAttr,zf];(repeat (constructor;focus (clear hK';intros;simp_all;done)));(try (apply hK';clear hK' K')))|((with_reducible apply zz3);rfl;all_goals (intro h;try exact absurd h (by decide))))
         (with_reducible refine qa6 ?_ ?_ ?_ (⟨⟨[(5,.slc (AG.map Nd.d)),(11,.slc (AH.map Nd.d)),(12,.tup [bD cr,iD 0])],[]⟩,[],[],[],[]⟩) _ rfl (fun K' hK' gops fin hgops hfin=>?_)
          · kernel_rfl
          · rfl
          · rfl
          repeat' first
           | (refine qa9 rfl trivial (by simp only [WB,simprocAttr,UX,UA];rfl) (by simp only [za,zb];rfl) (by simp only [zn2];rfl) ?_)
           | (refine qa8 rfl rfl trivial (by simp only [WB,simprocAttr,UX,UA,x0,y0,qx0,qy0,hA,hB,hG1,ze ];rfl) ?_ (by simp only [WB,simprocAttr,UX,UA];rfl) (by simp only [WB,simprocAttr,UX,UA];rfl) (by simp only [za,zb];rfl) (by simp only [zn2];rfl) ?_;focus (first | trivial | ((repeat' constructor) <;> first | trivial | assumption | (clear hK' hfin hgops;intros;simp_all;done))))
          (refine qb5 (by subst hfin;kernel_rfl) ?_)
          clear hfin hgops fin gops
          (try (apply hK';clear hK' K')))
         cases cr with
         | true =>
          rw [if_pos rfl] at hR
          subst hR
          repeat' (first|(with_reducible apply zz1)|((with_reducible apply zz2);rfl;intro K' hK';simp only [WB,simprocAttr,zh];(repeat (constructor;focus (clear hK';intros;simp_all;done)));(try (apply hK';clear hK' K')))|((with_reducible apply zz3);rfl;all_goals (intro h;try exact absurd h (by decide))))
          (with_reducible refine qa6 ?_ ?_ ?_ (⟨⟨[],[]⟩,[],[],[],[]⟩) _ rfl (fun K' hK' gops fin hgops hfin=>?_)
           · kernel_rfl
           · rfl
           · rfl
           repeat' first
            | (refine qa9 rfl trivial (by simp only [WB,simprocAttr,UX,UA];rfl) (by simp only [za,zb];rfl) (by simp only [zn2];rfl) ?_)
            | (refine qa8 rfl rfl trivial (by simp only [WB,simprocAttr,UX,UA,x1,y1,qx1,qy1,vy0,ze ];rfl) ?_ (by simp only [WB,simprocAttr,UX,UA];rfl) (by simp only [WB,simprocAttr,UX,UA];rfl) (by simp only [za,zb];rfl) (by simp only [zn2];rfl) ?_;focus (first | trivial | ((repeat' constructor) <;> first | trivial | assumption | (clear hK' hfin hgops;intros;simp_all;done))))
           (refine qb5 (by subst hfin;kernel_rfl) ?_)
           clear hfin hgops fin gops
           (try (apply hK';clear hK' K')))
          repeat' (first|(with_reducible apply zz1)|((with_reducible apply zz2);rfl;intro K' hK';simp only [WB,simprocAttr];(repeat (constructor;focus (clear hK';intros;simp_all;done)));(try (apply hK';clear hK' K')))|((with_reducible apply zz3);rfl;all_goals (intro h;try exact absurd h (by decide))))
          simp only [qf7,qd5,qa2,qd6,WB,simprocAttr,qs5,zq,zm,Pc.d]
         | false =>
          rw [if_neg (by decide)] at hR
          subst hR
          repeat' (first|(with_reducible apply zz1)|((with_reducible apply zz2);rfl;intro K' hK';simp only [WB,simprocAttr,zi];(repeat (constructor;focus (clear hK';intros;simp_all;done)));(try (apply hK';clear hK' K')))|((with_reducible apply zz3);rfl;all_goals (intro h;try exact absurd h (by decide))))
          simp only [qf7,qd5,qa2,qd6,WB,simprocAttr,qs5]
       · simp only [if_true] at hR
         generalize yw3 AH AG = cr at *
         repeat' (first|(with_reducible apply zz1)|((with_reducible apply zz2);rfl;intro K' hK';simp only [WB,simprocAttr,zf];(repeat (constructor;focus (clear hK';intros;simp_all;done)));(try (apply hK';clear hK' K')))|((with_reducible apply zz3);rfl;all_goals (intro h;try exact absurd h (by decide))))
         (with_reducible refine qa6 ?_ ?_ ?_ (⟨⟨[],[]⟩,[],[],[],[]⟩) _ rfl (fun K' hK' gops fin hgops hfin=>?_)
          · kernel_rfl
          · rfl
          · rfl
          repeat' first
           | (refine qa9 rfl trivial (by simp only [WB,simprocAttr,UX,UA];rfl) (by simp only [za,zb];rfl) (by simp only [zn2];rfl) ?_)
           | (refine qa8 rfl rfl trivial (by simp only [WB,simprocAttr,UX,UA,ze ];rfl) ?_ (by simp only [WB,simprocAttr,UX,UA];rfl) (by simp only [WB,simprocAttr,UX,UA];rfl) (by simp only [za,zb];rfl) (by simp only [zn2];rfl) ?_;focus (first | trivial | ((repeat' constructor) <;> first | trivial | assumption | (clear hK' hfin hgops;intros;simp_all;done))))
          (refine qb5 (by subst hfin;kernel_rfl) ?_)
          clear hfin hgops fin gops
          (try (apply hK';clear hK' K')))
         repeat' (first|(with_reducible apply zz1)|((with_reducible apply zz2);rfl;intro K' hK';simp only [WB,simprocAttr,zf];(repeat (constructor;focus (clear hK';intros;simp_all;done)));(try (apply hK';clear hK' K')))|((with_reducible apply zz3);rfl;all_goals (intro h;try exact absurd h (by decide))))
         (with_reducible refine qa6 ?_ ?_ ?_ (⟨⟨[],[]⟩,[],[],[],[]⟩) _ rfl (fun K' hK' gops fin hgops hfin=>?_)
          · kernel_rfl
          · rfl
          · rfl
          repeat' first
           | (refine qa9 rfl trivial (by simp only [WB,simprocAttr,UX,UA];rfl) (by simp only [za,zb];rfl) (by simp only [zn2];rfl) ?_)
           | (refine qa8 rfl rfl trivial (by simp only [WB,simprocAttr,UX,UA,ze ];rfl) ?_ (by simp only [WB,simprocAttr,UX,UA];rfl) (by simp only [WB,simprocAttr,UX,UA];rfl) (by simp only [za,zb];rfl) (by simp only [zn2];rfl) ?_;focus (first | trivial | ((repeat' constructor) <;> first | trivial | assumption | (clear hK' hfin hgops;intros;simp_all;done))))
          (refine qb5 (by subst hfin;kernel_rfl) ?_)
          clear hfin hgops fin gops
          (try (apply hK';clear hK' K')))
         repeat' (first|(with_reducible apply zz1)|((with_reducible apply zz2);rfl;intro K' hK';simp only [WB,simprocAttr];(repeat (constructor;focus (clear hK';intros;simp_all;done)));(try (apply hK';clear hK' K')))|((with_reducible apply zz3);rfl;all_goals (intro h;try exact absurd h (by decide))))
         (with_reducible refine qa6 ?_ ?_ ?_ (⟨⟨[(5,.slc (AH.map Nd.d)),(11,.slc (AG.map Nd.d)),(12,.tup [bD cr,iD 0])],[]⟩,[],[],[],[]⟩) _ rfl (fun K' hK' gops fin hgops hfin=>?_)
          · kernel_rfl
          · rfl
          · rfl
          repeat' first
           | (refine qa9 rfl trivial (by simp only [WB,simprocAttr,UX,UA];rfl) (by simp only [za,zb];rfl) (by simp only [zn2];rfl) ?_)
           | (refine qa8 rfl rfl trivial (by simp only [WB,simprocAttr,UX,UA,x0,y0,qx0,qy0,hA,hB,hG2,ze ];rfl) ?_ (by simp only [WB,simprocAttr,UX,UA];rfl) (by simp only [WB,simprocAttr,UX,UA];rfl) (by simp only [za,zb];rfl) (by simp only [zn2];rfl) ?_;focus (first | trivial | ((repeat' constructor) <;> first | trivial | assumption | (clear hK' hfin hgops;intros;simp_all;done))))
          (refine qb5 (by subst hfin;kernel_rfl) ?_)
          clear hfin hgops fin gops
          (try (apply hK';clear hK' K')))
         cases cr with
         | true =>
          rw [if_pos rfl] at hR
          subst hR
          repeat' (first|(with_reducible apply zz1)|((with_reducible apply zz2);rfl;intro K' hK';simp only [WB,simprocAttr,zh];(repeat (constructor;focus (clear hK';intros;simp_all;done)));(try (apply hK';clear hK' K')))|((with_reducible apply zz3);rfl;all_goals (intro h;try exact absurd h (by decide))))
          (with_reducible refine qa6 ?_ ?_ ?_ (⟨⟨[],[]⟩,[],[],[],[]⟩) _ rfl (fun K' hK' gops fin hgops hfin=>?_)
           · kernel_rfl
           · rfl
           · rfl
           repeat' first
            | (refine qa9 rfl trivial (by simp only [WB,simprocAttr,UX,UA];rfl) (by simp only [za,zb];rfl) (by simp only [zn2];rfl) ?_)
            | (refine qa8 rfl rfl trivial (by simp only [WB,simprocAttr,UX,UA,x1,y1,qx1,qy1,vy0,ze ];rfl) ?_ (by simp only [WB,simprocAttr,UX,UA];rfl) (by simp only [WB,simprocAttr,UX,UA];rfl) (by simp only [za,zb];rfl) (by simp only [zn2];rfl) ?_;focus (first | trivial | ((repeat' constructor) <;> first | trivial | assumption | (clear hK' hfin hgops;intros;simp_all;done))))
           (refine qb5 (by subst hfin;kernel_rfl) ?_)
           clear hfin hgops fin gops
           (try (apply hK';clear hK' K')))
          repeat' (first|(with_reducible apply zz1)|((with_reducible apply zz2);rfl;intro K' hK';simp only [WB,simprocAttr];(repeat (constructor;focus (clear hK';intros;simp_all;done)));(try (apply hK';clear hK' K')))|((with_reducible apply zz3);rfl;all_goals (intro h;try exact absurd h (by decide))))
          simp only [qf7,qd5,qa2,qd6,WB,simprocAttr,qs5,zq,zm,Pc.d]
         | false =>
          rw [if_neg (by decide)] at hR
          subst hR
          repeat' (first|(with_reducible apply zz1)|((with_reducible apply zz2);rfl;intro K' hK';simp only [WB,simprocAttr,zi];(repeat (constructor;focus (clear hK';intros;simp_all;done)));(try (apply hK';clear hK' K')))|((with_reducible apply zz3);rfl;all_goals (intro h;try exact absurd h (by decide))))
          simp only [qf7,qd5,qa2,qd6,WB,simprocAttr,qs5]
     rw [if_neg h45] at hR
     by_cases h67 : xk = 6 ∨ xk = 7
     · exact absurd ⟨h67,hkk,hss⟩ hcc
     · rw [if_neg h67] at hR
       subst hR
       have h1 : xk = 1:=by
        rcases shX with ⟨e, -⟩ | ⟨e, -⟩ | ⟨e, -⟩ | ⟨e, -⟩ <;> omega
       subst h1
       repeat' (first|(with_reducible apply zz1)|((with_reducible apply zz2);rfl;intro K' hK';simp only [WB,simprocAttr,zf];(repeat (constructor;focus (clear hK';intros;simp_all;done)));(try (apply hK';clear hK' K')))|((with_reducible apply zz3);rfl;all_goals (intro h;try exact absurd h (by decide))))
       simp only [qf7,qd5,qa2,qd6,WB,simprocAttr,qs5,zm]
   · rw [if_pos hss] at hR
     subst hR
     have gs : (xso != yso) = true:=by simpa using hss
     (with_reducible refine qi1 ?_ ?_ ?_ ( [(4,iD (qg4 xk))]) (fun K' hK'=>?_)
      · kernel_rfl
      · rfl
      · rfl
      simp only [WB,simprocAttr,UG,hk,gk,gs,zh,zi,zn,zo,false_implies,cond_true,cond_false ]
      (try (apply hK';clear hK' K')))
     repeat' (first|(with_reducible apply zz1)|((with_reducible apply zz2);rfl;intro K' hK';simp only [WB,simprocAttr];(repeat (constructor;focus (clear hK';intros;simp_all;done)));(try (apply hK';clear hK' K')))|((with_reducible apply zz3);rfl;all_goals (intro h;try exact absurd h (by decide))))
     simp only [qf7,qd5,qa2,qd6,WB,simprocAttr,qs5]
 · rw [if_pos hkk] at hR
   subst hR
   have gk : (yk != qg4 xk) = true:=by simpa using hkk
   (with_reducible refine qi1 ?_ ?_ ?_ ( [(4,iD (qg4 xk))]) (fun K' hK'=>?_)
    · kernel_rfl
    · rfl
    · rfl
    simp only [WB,simprocAttr,UG,hk,gk,zh,zi,zn,zo,false_implies,cond_true,cond_false ]
    (try (apply hK';clear hK' K')))
   repeat' (first|(with_reducible apply zz1)|((with_reducible apply zz2);rfl;intro K' hK';simp only [WB,simprocAttr];(repeat (constructor;focus (clear hK';intros;simp_all;done)));(try (apply hK';clear hK' K')))|((with_reducible apply zz3);rfl;all_goals (intro h;try exact absurd h (by decide))))
   simp only [qf7,qd5,qa2,qd6,WB,simprocAttr,qs5]
end Go.Proofs.YtgecnlcbdbaneaaDoor
