/- below.labels; a symbolic walk. -/
-- TYPESD
import Derived.Test.YtgecnlcbdbaneaaDoorKY1
import Derived.Test.YtgecnlcbdbaneaaDoorKS
set_option linter.unusedVariables false
set_option linter.unusedSimpArgs false
namespace Go.Proofs.YtgecnlcbdbaneaaDoor
open Go.RowKit Go.Sw
open _root_.List renaming length_map → za, nil_append → zb, cons_append → ze, map → zf, append_nil → zn, map_nil → zo
open _root_.Bool renaming not_false → zh, not_true → zm
open Nat renaming reduceAdd → zn2

def labP (x y : List ByteArray) (both some : Bool) : List ByteArray:=if both = true then (if some = true then vz1 x y else ym6 x y) else x
theorem ys2 (x : List ByteArray) (l : ByteArray) (y : List ByteArray) : vz1 (x ++ [l]) y = vz1 x y ++ (if inL y l = true then [l] else []):=by
 unfold vz1
 rw [List.filter_append,List.filter_cons]
 split <;> simp
set_option maxHeartbeats 8000000 in
set_option maxRecDepth 100000 in
theorem xs9 (Γ : Gl) (x y : Nd) (b s : Bool) (hx : x.ls.length ≤ 6) (hy : y.ls.length ≤ 6) : DFn Tryd.prog Γ 86 [x.d,y.d,bD b,bD s] (.slc ((labP x.ls y.ls b s).map sD)):=by
 obtain ⟨xk,xso,xls,xto⟩:=x
 obtain ⟨yk,yso,yls,yto⟩:=y
 simp only at hx hy
 have hcS:=vd2 Γ xls (by omega)
 have hcF:=qu1 Γ xls (by omega)
 simp only [Nd.d]
 unfold labP
 cases b with
 | false =>
  rw [if_neg (by decide)]
  refine qa4 (N:=47) Tryd.func86 rfl (by decide) rfl rfl (by simp) (fun C h0=>?_)
  simp only [qj1]
  repeat' (first|(with_reducible apply zz1)|((with_reducible apply zz2);rfl;intro K' hK';simp only [WD,simprocAttr,zh];(repeat (constructor;focus (clear hK';intros;simp_all;done)));(try (apply hK';clear hK' K')))|((with_reducible apply zz3);rfl;all_goals (intro h;try exact absurd h (by decide))))
  -- TRACE
  refine qb4 h0 rfl (by simp only [WD,simprocAttr]) rfl (by simp only [qe6,Option.isSome_some,WD,simprocAttr]) (hcS) ?_
  simp only [WD,simprocAttr,inX,qc7, ]
  (repeat (constructor;focus (clear hK';intros;simp_all;done)))
  (try (apply hK';clear hK' K'))
  repeat' (first|(with_reducible apply zz1)|((with_reducible apply zz2);rfl;intro K' hK';simp only [WD,simprocAttr];(repeat (constructor;focus (clear hK';intros;simp_all;done)));(try (apply hK';clear hK' K')))|((with_reducible apply zz3);rfl;all_goals (intro h;try exact absurd h (by decide))))
  simp only [qf7,qd5,qa2,qd6,WD,simprocAttr]
 | true =>
 rw [if_pos rfl]
 cases s with
 | false =>
  rw [if_neg (by decide)]
  have hl2:=vk9 (qm2 (xls ++ yls))
  rw [qm1] at hl2
  have hlen : (xls ++ yls).length ≤ 12:=by simp;omega
  have hco : SFn Tryd.prog Γ 97 [.own 4] [(4,.row 1 ((qm2 (xls ++ yls)).map sD))] (.own 4) [(4,.row 1 ((qo3 (qm2 (xls ++ yls))).map sD))]:=(yo5 Γ (qm2 (xls ++ yls)) (by rw [qm1];omega)).up 4
  have hcn : DFn Tryd.prog Γ 63 [.slc ((qo3 (qm2 (xls ++ yls))).map sD)] (.slc ((qo3 (qm2 (xls ++ yls))).map sD)):=vd2 Γ _ (by omega)
  unfold ym6
  generalize qo3 (qm2 (xls ++ yls)) = L3 at *
  generalize hL2 : qm2 (xls ++ yls) = L2 at *
  cases yls with
  | nil =>
   rw [zn] at hL2 hlen
   refine qa4 (N:=47) Tryd.func86 rfl (by decide) rfl rfl (by simp) (fun C h0=>?_)
   simp only [qj1,zo]
   repeat' (first|(with_reducible apply zz1)|((with_reducible apply zz2);rfl;intro K' hK';simp only [WD,simprocAttr,zm,zh];(repeat (constructor;focus (clear hK';intros;simp_all;done)));(try (apply hK';clear hK' K')))|((with_reducible apply zz3);rfl;all_goals (intro h;try exact absurd h (by decide))))
   (with_reducible refine qa6 ?_ ?_ ?_ (⟨⟨[],[(2,(1,xls.map sD))]⟩,[],[],[],[]⟩) _ rfl (fun K' hK' gops fin hgops hfin=>?_)
    · kernel_rfl
    · rfl
    · rfl
    repeat' first
     | (refine qa9 rfl trivial (by simp only [WD,simprocAttr,UX,UA];rfl) (by simp only [zb,ze];rfl) (by simp only [zn2];rfl) ?_)
     | (refine qa8 rfl rfl trivial (by simp only [WD,simprocAttr,UX,UA,hcF,za ];rfl) ?_ (by simp only [WD,simprocAttr,UX,UA];rfl) (by simp only [WD,simprocAttr,UX,UA];rfl) (by simp only [zb,ze];rfl) (by simp only [zn2];rfl) ?_;focus (first | trivial | ((repeat' constructor) <;> first | trivial | assumption | (clear hK' hfin hgops;intros;simp_all;done))))
    (refine qb5 (by subst hfin;kernel_rfl) ?_)
    clear hfin hgops fin gops
    (try (apply hK';clear hK' K')))
   repeat' (first|(with_reducible apply zz1)|((with_reducible apply zz2);rfl;intro K' hK';simp only [WD,simprocAttr];(repeat (constructor;focus (clear hK';intros;simp_all;done)));(try (apply hK';clear hK' K')))|((with_reducible apply zz3);rfl;all_goals (intro h;try exact absurd h (by decide))))
   refine xb7 xls rfl rfl rfl (by omega) ?_
   simp only [WD,simprocAttr]
   refine hK' _ _ ?_
   clear hK' K'
   rw [show zf sD (qm2 xls) = zf sD L2 from by rw [hL2]]
   repeat' (first|(with_reducible apply zz1)|((with_reducible apply zz2);rfl;intro K' hK';simp only [WD,simprocAttr];(repeat (constructor;focus (clear hK';intros;simp_all;done)));(try (apply hK';clear hK' K')))|((with_reducible apply zz3);rfl;all_goals (intro h;try exact absurd h (by decide))))
   refine qm7 rfl (by simp only [UA,WD,simprocAttr]) (hco) ?_
   simp only [WD,simprocAttr,UM, ]
   (try (apply hK';clear hK' K'))
   refine qb4 h0 rfl (by simp only [WD,simprocAttr]) rfl (by simp only [qe6,Option.isSome_some,WD,simprocAttr]) (hcn) ?_
   simp only [WD,simprocAttr,inX,qc7, ]
   (repeat (constructor;focus (clear hK';intros;simp_all;done)))
   (try (apply hK';clear hK' K'))
   repeat' (first|(with_reducible apply zz1)|((with_reducible apply zz2);rfl;intro K' hK';simp only [WD,simprocAttr];(repeat (constructor;focus (clear hK';intros;simp_all;done)));(try (apply hK';clear hK' K')))|((with_reducible apply zz3);rfl;all_goals (intro h;try exact absurd h (by decide))))
   simp only [qf7,qd5,qa2,qd6,WD,simprocAttr]
  | cons y0 ys =>
   have hn1 : (xls.length + (ys.length + 1)) * 16 ≤ 140737488355328:=by simp at hy;omega
   have hn2 : xls.length + (ys.length + 1) ≤ maxLen:=by unfold maxLen;simp at hy;omega
   have hap : xls.map sD ++ sD y0 :: ys.map sD = (xls ++ y0 :: ys).map sD:=by simp
   have hfit : ∀ d ∈ sD y0 :: ys.map sD,d.fits 1:=fun d hd=>by
    rcases List.mem_cons.1 hd with rfl | hd
    · simp [D.fits,D.cells,vq1]
    · obtain ⟨z, -,rfl⟩:=List.mem_map.1 hd
      simp [D.fits,D.cells,vq1]
   refine qa4 (N:=47) Tryd.func86 rfl (by decide) rfl rfl (by simp) (fun C h0=>?_)
   simp only [qj1,List.map_cons]
   repeat' (first|(with_reducible apply zz1)|((with_reducible apply zz2);rfl;intro K' hK';simp only [WD,simprocAttr,zm,zh];(repeat (constructor;focus (clear hK';intros;simp_all;done)));(try (apply hK';clear hK' K')))|((with_reducible apply zz3);rfl;all_goals (intro h;try exact absurd h (by decide))))
   (with_reducible refine qa6 ?_ ?_ ?_ (⟨⟨[],[(2,(1,xls.map sD))]⟩,[],[],[],[]⟩) _ rfl (fun K' hK' gops fin hgops hfin=>?_)
    · kernel_rfl
    · rfl
    · rfl
    repeat' first
     | (refine qa9 rfl trivial (by simp only [WD,simprocAttr,UX,UA];rfl) (by simp only [zb,ze];rfl) (by simp only [zn2];rfl) ?_)
     | (refine qa8 rfl rfl trivial (by simp only [WD,simprocAttr,UX,UA,hcF,hn1,hn2,hap,za ];rfl) ?_ (by simp only [WD,simprocAttr,UX,UA];rfl) (by simp only [WD,simprocAttr,UX,UA];rfl) (by simp only [zb,ze];rfl) (by simp only [zn2];rfl) ?_;focus (first | trivial | ((repeat' constructor) <;> first | trivial | assumption | (clear hK' hfin hgops;intros;simp_all;done))))
    (refine qb5 (by subst hfin;kernel_rfl) ?_)
    clear hfin hgops fin gops
    (try (apply hK';clear hK' K')))
   repeat' (first|(with_reducible apply zz1)|((with_reducible apply zz2);rfl;intro K' hK';simp only [WD,simprocAttr];(repeat (constructor;focus (clear hK';intros;simp_all;done)));(try (apply hK';clear hK' K')))|((with_reducible apply zz3);rfl;all_goals (intro h;try exact absurd h (by decide))))
   refine xb7 (xls ++ y0 :: ys) rfl rfl rfl (by omega) ?_
   simp only [WD,simprocAttr]
   refine hK' _ _ ?_
   clear hK' K'
   rw [show zf sD (qm2 (xls ++ y0 :: ys)) = zf sD L2 from by rw [hL2]]
   repeat' (first|(with_reducible apply zz1)|((with_reducible apply zz2);rfl;intro K' hK';simp only [WD,simprocAttr];(repeat (constructor;focus (clear hK';intros;simp_all;done)));(try (apply hK';clear hK' K')))|((with_reducible apply zz3);rfl;all_goals (intro h;try exact absurd h (by decide))))
   refine qm7 rfl (by simp only [UA,WD,simprocAttr]) (hco) ?_
   simp only [WD,simprocAttr,UM, ]
   (try (apply hK';clear hK' K'))
   refine qb4 h0 rfl (by simp only [WD,simprocAttr]) rfl (by simp only [qe6,Option.isSome_some,WD,simprocAttr]) (hcn) ?_
   simp only [WD,simprocAttr,inX,qc7, ]
   (repeat (constructor;focus (clear hK';intros;simp_all;done)))
   (try (apply hK';clear hK' K'))
   repeat' (first|(with_reducible apply zz1)|((with_reducible apply zz2);rfl;intro K' hK';simp only [WD,simprocAttr];(repeat (constructor;focus (clear hK';intros;simp_all;done)));(try (apply hK';clear hK' K')))|((with_reducible apply zz3);rfl;all_goals (intro h;try exact absurd h (by decide))))
   simp only [qf7,qd5,qa2,qd6,WD,simprocAttr]
 | true =>
  rw [if_pos rfl]
  refine qa4 (N:=47) Tryd.func86 rfl (by decide) rfl rfl (by simp) (fun C h0=>?_)
  simp only [qj1]
  repeat' (first|(with_reducible apply zz1)|((with_reducible apply zz2);rfl;intro K' hK';simp only [WD,simprocAttr,zm];(repeat (constructor;focus (clear hK';intros;simp_all;done)));(try (apply hK';clear hK' K')))|((with_reducible apply zz3);rfl;all_goals (intro h;try exact absurd h (by decide))))
  refine qm9 9 2 1 rfl rfl (by decide) ?_
  simp only [WD,simprocAttr]
  repeat' (first|(with_reducible apply zz1)|((with_reducible apply zz2);rfl;intro K' hK';simp only [WD,simprocAttr,za];(repeat (constructor;focus (clear hK';intros;simp_all;done)));(try (apply hK';clear hK' K')))|((with_reducible apply zz3);rfl;all_goals (intro h;try exact absurd h (by decide))))
  refine qd3 (α := Nat) (fun j=>[(4,.ref 0 0),(5,.ref 1 0),(9,.own 2),(31,.d (.slc (xls.map sD))),(32,.d (iD xls.length)),(33,.d (iD j))])
   (fun j=>[(0,.cells [.d (iD xk),.d (iD xso),.d (.slc (xls.map sD)),.d (.slc (xto.map iD))]),(1,.cells [.d (iD yk),.d (iD yso),.d (.slc (yls.map sD)),.d (.slc (yto.map iD))]),(2,.row 1 ((vz1 (xls.take j) yls).map sD))])
   (fun j=>j ≤ xls.length) (fun j=>xls.length - j) 0 (Nat.zero_le _) (by refine qa3 h0 ?_ ?_ ?_ <;> simp only [US,WD,simprocAttr,za,List.take_zero,vz1,List.filter_nil,zo]) (fun j hj=>?_)
  have hj : j ≤ xls.length:=hj
  have hj0 : (0 : Int) ≤ (j : Int):=by omega
  have hil : (vz1 (xls.take j) yls).length ≤ 6:=by
   unfold vz1
   refine Nat.le_trans (List.length_filter_le _ _) ?_
   rw [List.length_take];omega
  by_cases hjl : j < xls.length
  · obtain ⟨l,hl⟩ : ∃ l,xls[j]? = some l:=⟨xls[j],by simp [hjl]⟩
    have hg : (xls.map sD).getD j default = sD l:=by simp [List.getD,hl]
    have hct:=qj7 Γ yls l (by omega)
    have hct : DFn Tryd.prog Γ 62 [.slc (yls.map sD),sD l] (.v (.bool (inL yls l))):=hct
    have hj1 : (j : Int) < (xls.length : Int):=by omega
    have hw2 : IntKind.i64.wrap ((j : Int) + 1) = ((j + 1 : Nat) : Int):=by rw [qd7 (by omega) (by omega)];omega
    have hsn:=ys2 (xls.take j) l yls
    rw [show xls.take j ++ [l] = xls.take (j + 1) by rw [List.take_add_one,hl];rfl] at hsn
    cases hb : inL yls l with
    | false =>
     rw [hb] at hct hsn
     rw [if_neg (by decide),zn] at hsn
     repeat' (first|(with_reducible apply zz1)|((with_reducible apply zz2);rfl;intro K' hK';simp only [WD,simprocAttr,Int.toNat_natCast,hj0,hj1,hg,za];(repeat (constructor;focus (clear hK';intros;simp_all;done)));(try (apply hK';clear hK' K')))|((with_reducible apply zz3);rfl;all_goals (intro h;try exact absurd h (by decide))))
     refine qb1 rfl (by simp only [WD,simprocAttr]) rfl rfl (hct) ?_
     simp only [WD,simprocAttr,inX,qc7, ]
     (repeat (constructor;focus (clear hK';intros;simp_all;done)))
     (try (apply hK';clear hK' K'))
     repeat' (first|(with_reducible apply zz1)|((with_reducible apply zz2);rfl;intro K' hK';simp only [WD,simprocAttr,hw2];(repeat (constructor;focus (clear hK';intros;simp_all;done)));(try (apply hK';clear hK' K')))|((with_reducible apply zz3);rfl;all_goals (intro h;try exact absurd h (by decide))))
     refine ⟨j + 1,(by show j + 1 ≤ xls.length;omega),(by show xls.length - (j + 1) < xls.length - j;omega),by simp only [hsn];refine qa3 h0 ?_ ?_ ?_ <;> simp only [US,WD,simprocAttr]⟩
    | true =>
     rw [hb] at hct hsn
     rw [if_pos rfl] at hsn
     have hn3 : ((vz1 (xls.take j) yls).length + 1) * 16 ≤ 140737488355328:=by omega
     have hn4 : (vz1 (xls.take j) yls).length + 1 ≤ maxLen:=by unfold maxLen;omega
     have hm : (vz1 (xls.take j) yls).map sD ++ [sD l] = (vz1 (xls.take (j + 1)) yls).map sD:=by rw [hsn];simp
     repeat' (first|(with_reducible apply zz1)|((with_reducible apply zz2);rfl;intro K' hK';simp only [WD,simprocAttr,Int.toNat_natCast,hj0,hj1,hg,za];(repeat (constructor;focus (clear hK';intros;simp_all;done)));(try (apply hK';clear hK' K')))|((with_reducible apply zz3);rfl;all_goals (intro h;try exact absurd h (by decide))))
     refine qb1 rfl (by simp only [WD,simprocAttr]) rfl rfl (hct) ?_
     simp only [WD,simprocAttr,inX,qc7, ]
     (repeat (constructor;focus (clear hK';intros;simp_all;done)))
     (try (apply hK';clear hK' K'))
     repeat' (first|(with_reducible apply zz1)|((with_reducible apply zz2);rfl;intro K' hK';simp only [WD,simprocAttr,hw2,hn3,hn4,hm,za];(repeat (constructor;focus (clear hK';intros;simp_all;done)));(try (apply hK';clear hK' K')))|((with_reducible apply zz3);rfl;all_goals (intro h;try exact absurd h (by decide))))
     refine ⟨j + 1,(by show j + 1 ≤ xls.length;omega),(by show xls.length - (j + 1) < xls.length - j;omega),by refine qa3 h0 ?_ ?_ ?_ <;> simp only [US,WD,simprocAttr]⟩
  · have hj1 : ¬ (j : Int) < (xls.length : Int):=by omega
    rw [List.take_of_length_le (by omega)]
    repeat' (first|(with_reducible apply zz1)|((with_reducible apply zz2);rfl;intro K' hK';simp only [WD,simprocAttr,hj1];(repeat (constructor;focus (clear hK';intros;simp_all;done)));(try (apply hK';clear hK' K')))|((with_reducible apply zz3);rfl;all_goals (intro h;try exact absurd h (by decide))))
    simp only [qf7,qd5,qa2,qd6,WD,simprocAttr]
end Go.Proofs.YtgecnlcbdbaneaaDoor
