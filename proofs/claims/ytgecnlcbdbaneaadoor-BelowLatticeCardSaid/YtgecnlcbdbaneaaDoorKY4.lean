/- below.labels; a symbolic walk. -/
-- TYPESD
import Derived.Test.YtgecnlcbdbaneaaDoorKD7
import Derived.Test.YtgecnlcbdbaneaaDoorKS
set_option linter.unusedVariables false
set_option linter.unusedSimpArgs false
namespace Go.Proofs.YtgecnlcbdbaneaaDoor
open Go.RowKit Go.Sw
open Nat renaming reduceAdd → zn2

def labP (x y : List ByteArray) (both some : Bool) : List ByteArray:=if both = true then (if some = true then intL x y else uniL x y) else x
theorem int_snoc (x : List ByteArray) (l : ByteArray) (y : List ByteArray) : intL (x ++ [l]) y = intL x y ++ (if inL y l = true then [l] else []):=by
 unfold intL
 rw [List.filter_append,List.filter_cons]
 split <;> simp
set_option maxHeartbeats 8000000 in
set_option maxRecDepth 100000 in
theorem labels2_fn (Γ : Gl) (x y : Nd) (b s : Bool) (hx : x.ls.length ≤ 6) (hy : y.ls.length ≤ 6) : DFn Tryd.prog Γ 86 [x.d,y.d,bD b,bD s] (.slc ((labP x.ls y.ls b s).map sD)):=by
 obtain ⟨xk,xso,xls,xto⟩:=x
 obtain ⟨yk,yso,yls,yto⟩:=y
 simp only at hx hy
 have hcS:=cloneS_d Γ xls (by omega)
 have hcF:=cloneS_fn Γ xls (by omega)
 simp only [Nd.d]
 unfold labP
 cases b with
 | false =>
  rw [if_neg (by decide)]
  refine fn_of_swp (N:=47) Tryd.func86 rfl (by decide) rfl rfl (by simp) (fun C h0=>?_)
  simp only [argE]
  repeat' (first|(with_reducible apply zz1)|((with_reducible refine zz4 ?_ ?_);rfl)|((with_reducible refine zz2 ?_ (fun K' hK'=>?_));rfl;simp only [WD,simprocAttr,Bool.not_false];(repeat (refine And.intro ?_ ?_;focus (clear hK';intros;simp_all;done)));(try (refine hK' _ _ ?_;clear hK' K')))|((with_reducible refine zz3 ?_ ?_);rfl;refine ⟨_,rfl,fun h=>?_,fun h=>?_⟩ <;> try exact absurd h (by decide)))
  -- TRACE
  refine stop_call h0 rfl (by simp only [WD,simprocAttr]) rfl (by simp only [keepS,Option.isSome_some,WD,simprocAttr]) (hcS) ?_
  simp only [WD,simprocAttr,inX,dropS, ]
  (repeat (refine And.intro ?_ ?_;focus (clear hK';intros;simp_all;done)))
  (try (refine hK' _ _ ?_;clear hK' K'))
  repeat' (first|(with_reducible apply zz1)|((with_reducible refine zz4 ?_ ?_);rfl)|((with_reducible refine zz2 ?_ (fun K' hK'=>?_));rfl;simp only [WD,simprocAttr];(repeat (refine And.intro ?_ ?_;focus (clear hK';intros;simp_all;done)));(try (refine hK' _ _ ?_;clear hK' K')))|((with_reducible refine zz3 ?_ ?_);rfl;refine ⟨_,rfl,fun h=>?_,fun h=>?_⟩ <;> try exact absurd h (by decide)))
  simp only [Kret,retL,retOne,oneV,WD,simprocAttr]
 | true =>
 rw [if_pos rfl]
 cases s with
 | false =>
  rw [if_neg (by decide)]
  have hl2:=compS_len (sortS (xls ++ yls))
  rw [sortS_len] at hl2
  have hlen : (xls ++ yls).length ≤ 12:=by simp;omega
  have hco : SFn Tryd.prog Γ 97 [.own 4] [(4,.row 1 ((sortS (xls ++ yls)).map sD))] (.own 4) [(4,.row 1 ((compS (sortS (xls ++ yls))).map sD))]:=(compS_fn Γ (sortS (xls ++ yls)) (by rw [sortS_len];omega)).up 4
  have hcn : DFn Tryd.prog Γ 63 [.slc ((compS (sortS (xls ++ yls))).map sD)] (.slc ((compS (sortS (xls ++ yls))).map sD)):=cloneS_d Γ _ (by omega)
  unfold uniL
  generalize compS (sortS (xls ++ yls)) = L3 at *
  generalize hL2 : sortS (xls ++ yls) = L2 at *
  cases yls with
  | nil =>
   rw [List.append_nil] at hL2 hlen
   refine fn_of_swp (N:=47) Tryd.func86 rfl (by decide) rfl rfl (by simp) (fun C h0=>?_)
   simp only [argE,List.map_nil]
   repeat' (first|(with_reducible apply zz1)|((with_reducible refine zz4 ?_ ?_);rfl)|((with_reducible refine zz2 ?_ (fun K' hK'=>?_));rfl;simp only [WD,simprocAttr,Bool.not_true,Bool.not_false];(repeat (refine And.intro ?_ ?_;focus (clear hK';intros;simp_all;done)));(try (refine hK' _ _ ?_;clear hK' K')))|((with_reducible refine zz3 ?_ ?_);rfl;refine ⟨_,rfl,fun h=>?_,fun h=>?_⟩ <;> try exact absurd h (by decide)))
   (with_reducible refine swp_drawX ?_ ?_ ?_ (⟨⟨[],[(2,(1,xls.map sD))]⟩,[],[],[],[]⟩) _ rfl (fun K' hK' gops fin hgops hfin=>?_)
    · kernel_rfl
    · rfl
    · rfl
    repeat' first
     | (refine vcX_dead rfl trivial (by simp only [WD,simprocAttr,UX,UA];rfl) (by simp only [List.nil_append,List.cons_append];rfl) (by simp only [zn2];rfl) ?_)
     | (refine vcX_step rfl rfl trivial (by simp only [WD,simprocAttr,UX,UA,hcF,List.length_map ];rfl) ?_ (by simp only [WD,simprocAttr,UX,UA];rfl) (by simp only [WD,simprocAttr,UX,UA];rfl) (by simp only [List.nil_append,List.cons_append];rfl) (by simp only [zn2];rfl) ?_;focus (first | trivial | ((repeat' (refine And.intro ?_ ?_)) <;> first | trivial | assumption | (clear hK' hfin hgops;intros;simp_all;done))))
    (refine vcX_nil (by subst hfin;kernel_rfl) ?_)
    clear hfin hgops fin gops
    (try (refine hK' _ _ ?_;clear hK' K')))
   repeat' (first|(with_reducible apply zz1)|((with_reducible refine zz4 ?_ ?_);rfl)|((with_reducible refine zz2 ?_ (fun K' hK'=>?_));rfl;simp only [WD,simprocAttr];(repeat (refine And.intro ?_ ?_;focus (clear hK';intros;simp_all;done)));(try (refine hK' _ _ ?_;clear hK' K')))|((with_reducible refine zz3 ?_ ?_);rfl;refine ⟨_,rfl,fun h=>?_,fun h=>?_⟩ <;> try exact absurd h (by decide)))
   refine stop_sort xls rfl rfl rfl (by omega) ?_
   simp only [WD,simprocAttr]
   refine hK' _ _ ?_
   clear hK' K'
   rw [show List.map sD (sortS xls) = List.map sD L2 from by rw [hL2]]
   repeat' (first|(with_reducible apply zz1)|((with_reducible refine zz4 ?_ ?_);rfl)|((with_reducible refine zz2 ?_ (fun K' hK'=>?_));rfl;simp only [WD,simprocAttr];(repeat (refine And.intro ?_ ?_;focus (clear hK';intros;simp_all;done)));(try (refine hK' _ _ ?_;clear hK' K')))|((with_reducible refine zz3 ?_ ?_);rfl;refine ⟨_,rfl,fun h=>?_,fun h=>?_⟩ <;> try exact absurd h (by decide)))
   refine stop_cS rfl (by simp only [UA,WD,simprocAttr]) (hco) ?_
   simp only [WD,simprocAttr,UM, ]
   (try (refine hK' _ _ ?_;clear hK' K'))
   refine stop_call h0 rfl (by simp only [WD,simprocAttr]) rfl (by simp only [keepS,Option.isSome_some,WD,simprocAttr]) (hcn) ?_
   simp only [WD,simprocAttr,inX,dropS, ]
   (repeat (refine And.intro ?_ ?_;focus (clear hK';intros;simp_all;done)))
   (try (refine hK' _ _ ?_;clear hK' K'))
   repeat' (first|(with_reducible apply zz1)|((with_reducible refine zz4 ?_ ?_);rfl)|((with_reducible refine zz2 ?_ (fun K' hK'=>?_));rfl;simp only [WD,simprocAttr];(repeat (refine And.intro ?_ ?_;focus (clear hK';intros;simp_all;done)));(try (refine hK' _ _ ?_;clear hK' K')))|((with_reducible refine zz3 ?_ ?_);rfl;refine ⟨_,rfl,fun h=>?_,fun h=>?_⟩ <;> try exact absurd h (by decide)))
   simp only [Kret,retL,retOne,oneV,WD,simprocAttr]
  | cons y0 ys =>
   have hn1 : (xls.length + (ys.length + 1)) * 16 ≤ 140737488355328:=by simp at hy;omega
   have hn2 : xls.length + (ys.length + 1) ≤ maxLen:=by unfold maxLen;simp at hy;omega
   have hap : xls.map sD ++ sD y0 :: ys.map sD = (xls ++ y0 :: ys).map sD:=by simp
   have hfit : ∀ d ∈ sD y0 :: ys.map sD,d.fits 1:=fun d hd=>by
    rcases List.mem_cons.1 hd with rfl | hd
    · simp [D.fits,D.cells,dscs]
    · obtain ⟨z, -,rfl⟩:=List.mem_map.1 hd
      simp [D.fits,D.cells,dscs]
   refine fn_of_swp (N:=47) Tryd.func86 rfl (by decide) rfl rfl (by simp) (fun C h0=>?_)
   simp only [argE,List.map_cons]
   repeat' (first|(with_reducible apply zz1)|((with_reducible refine zz4 ?_ ?_);rfl)|((with_reducible refine zz2 ?_ (fun K' hK'=>?_));rfl;simp only [WD,simprocAttr,Bool.not_true,Bool.not_false];(repeat (refine And.intro ?_ ?_;focus (clear hK';intros;simp_all;done)));(try (refine hK' _ _ ?_;clear hK' K')))|((with_reducible refine zz3 ?_ ?_);rfl;refine ⟨_,rfl,fun h=>?_,fun h=>?_⟩ <;> try exact absurd h (by decide)))
   (with_reducible refine swp_drawX ?_ ?_ ?_ (⟨⟨[],[(2,(1,xls.map sD))]⟩,[],[],[],[]⟩) _ rfl (fun K' hK' gops fin hgops hfin=>?_)
    · kernel_rfl
    · rfl
    · rfl
    repeat' first
     | (refine vcX_dead rfl trivial (by simp only [WD,simprocAttr,UX,UA];rfl) (by simp only [List.nil_append,List.cons_append];rfl) (by simp only [zn2];rfl) ?_)
     | (refine vcX_step rfl rfl trivial (by simp only [WD,simprocAttr,UX,UA,hcF,hn1,hn2,hap,List.length_map ];rfl) ?_ (by simp only [WD,simprocAttr,UX,UA];rfl) (by simp only [WD,simprocAttr,UX,UA];rfl) (by simp only [List.nil_append,List.cons_append];rfl) (by simp only [zn2];rfl) ?_;focus (first | trivial | ((repeat' (refine And.intro ?_ ?_)) <;> first | trivial | assumption | (clear hK' hfin hgops;intros;simp_all;done))))
    (refine vcX_nil (by subst hfin;kernel_rfl) ?_)
    clear hfin hgops fin gops
    (try (refine hK' _ _ ?_;clear hK' K')))
   repeat' (first|(with_reducible apply zz1)|((with_reducible refine zz4 ?_ ?_);rfl)|((with_reducible refine zz2 ?_ (fun K' hK'=>?_));rfl;simp only [WD,simprocAttr];(repeat (refine And.intro ?_ ?_;focus (clear hK';intros;simp_all;done)));(try (refine hK' _ _ ?_;clear hK' K')))|((with_reducible refine zz3 ?_ ?_);rfl;refine ⟨_,rfl,fun h=>?_,fun h=>?_⟩ <;> try exact absurd h (by decide)))
   refine stop_sort (xls ++ y0 :: ys) rfl rfl rfl (by omega) ?_
   simp only [WD,simprocAttr]
   refine hK' _ _ ?_
   clear hK' K'
   rw [show List.map sD (sortS (xls ++ y0 :: ys)) = List.map sD L2 from by rw [hL2]]
   repeat' (first|(with_reducible apply zz1)|((with_reducible refine zz4 ?_ ?_);rfl)|((with_reducible refine zz2 ?_ (fun K' hK'=>?_));rfl;simp only [WD,simprocAttr];(repeat (refine And.intro ?_ ?_;focus (clear hK';intros;simp_all;done)));(try (refine hK' _ _ ?_;clear hK' K')))|((with_reducible refine zz3 ?_ ?_);rfl;refine ⟨_,rfl,fun h=>?_,fun h=>?_⟩ <;> try exact absurd h (by decide)))
   refine stop_cS rfl (by simp only [UA,WD,simprocAttr]) (hco) ?_
   simp only [WD,simprocAttr,UM, ]
   (try (refine hK' _ _ ?_;clear hK' K'))
   refine stop_call h0 rfl (by simp only [WD,simprocAttr]) rfl (by simp only [keepS,Option.isSome_some,WD,simprocAttr]) (hcn) ?_
   simp only [WD,simprocAttr,inX,dropS, ]
   (repeat (refine And.intro ?_ ?_;focus (clear hK';intros;simp_all;done)))
   (try (refine hK' _ _ ?_;clear hK' K'))
   repeat' (first|(with_reducible apply zz1)|((with_reducible refine zz4 ?_ ?_);rfl)|((with_reducible refine zz2 ?_ (fun K' hK'=>?_));rfl;simp only [WD,simprocAttr];(repeat (refine And.intro ?_ ?_;focus (clear hK';intros;simp_all;done)));(try (refine hK' _ _ ?_;clear hK' K')))|((with_reducible refine zz3 ?_ ?_);rfl;refine ⟨_,rfl,fun h=>?_,fun h=>?_⟩ <;> try exact absurd h (by decide)))
   simp only [Kret,retL,retOne,oneV,WD,simprocAttr]
 | true =>
  rw [if_pos rfl]
  refine fn_of_swp (N:=47) Tryd.func86 rfl (by decide) rfl rfl (by simp) (fun C h0=>?_)
  simp only [argE]
  repeat' (first|(with_reducible apply zz1)|((with_reducible refine zz4 ?_ ?_);rfl)|((with_reducible refine zz2 ?_ (fun K' hK'=>?_));rfl;simp only [WD,simprocAttr,Bool.not_true];(repeat (refine And.intro ?_ ?_;focus (clear hK';intros;simp_all;done)));(try (refine hK' _ _ ?_;clear hK' K')))|((with_reducible refine zz3 ?_ ?_);rfl;refine ⟨_,rfl,fun h=>?_,fun h=>?_⟩ <;> try exact absurd h (by decide)))
  refine swp_nil 9 2 1 rfl rfl (by decide) ?_
  simp only [WD,simprocAttr]
  repeat' (first|(with_reducible apply zz1)|((with_reducible refine zz4 ?_ ?_);rfl)|((with_reducible refine zz2 ?_ (fun K' hK'=>?_));rfl;simp only [WD,simprocAttr,List.length_map];(repeat (refine And.intro ?_ ?_;focus (clear hK';intros;simp_all;done)));(try (refine hK' _ _ ?_;clear hK' K')))|((with_reducible refine zz3 ?_ ?_);rfl;refine ⟨_,rfl,fun h=>?_,fun h=>?_⟩ <;> try exact absurd h (by decide)))
  refine swp_loop (α := Nat) (fun j=>[(4,.ref 0 0),(5,.ref 1 0),(9,.own 2),(31,.d (.slc (xls.map sD))),(32,.d (iD xls.length)),(33,.d (iD j))])
   (fun j=>[(0,.cells [.d (iD xk),.d (iD xso),.d (.slc (xls.map sD)),.d (.slc (xto.map iD))]),(1,.cells [.d (iD yk),.d (iD yso),.d (.slc (yls.map sD)),.d (.slc (yto.map iD))]),(2,.row 1 ((intL (xls.take j) yls).map sD))])
   (fun j=>j ≤ xls.length) (fun j=>xls.length - j) 0 (Nat.zero_le _) (by refine sub_of h0 ?_ ?_ ?_ <;> simp only [US,WD,simprocAttr,List.length_map,List.take_zero,intL,List.filter_nil,List.map_nil]) (fun j hj=>?_)
  have hj : j ≤ xls.length:=hj
  have hj0 : (0 : Int) ≤ (j : Int):=by omega
  have hil : (intL (xls.take j) yls).length ≤ 6:=by
   unfold intL
   refine Nat.le_trans (List.length_filter_le _ _) ?_
   rw [List.length_take];omega
  by_cases hjl : j < xls.length
  · obtain ⟨l,hl⟩ : ∃ l,xls[j]? = some l:=⟨xls[j],by simp [hjl]⟩
    have hg : (xls.map sD).getD j default = sD l:=by simp [List.getD,hl]
    have hct:=containsS_fn Γ yls l (by omega)
    have hct : DFn Tryd.prog Γ 62 [.slc (yls.map sD),sD l] (.v (.bool (inL yls l))):=hct
    have hj1 : (j : Int) < (xls.length : Int):=by omega
    have hw2 : IntKind.i64.wrap ((j : Int) + 1) = ((j + 1 : Nat) : Int):=by rw [wrap_in (by omega) (by omega)];omega
    have hsn:=int_snoc (xls.take j) l yls
    rw [show xls.take j ++ [l] = xls.take (j + 1) by rw [List.take_add_one,hl];rfl] at hsn
    cases hb : inL yls l with
    | false =>
     rw [hb] at hct hsn
     rw [if_neg (by decide),List.append_nil] at hsn
     repeat' (first|(with_reducible apply zz1)|((with_reducible refine zz4 ?_ ?_);rfl)|((with_reducible refine zz2 ?_ (fun K' hK'=>?_));rfl;simp only [WD,simprocAttr,Int.toNat_natCast,hj0,hj1,hg,List.length_map];(repeat (refine And.intro ?_ ?_;focus (clear hK';intros;simp_all;done)));(try (refine hK' _ _ ?_;clear hK' K')))|((with_reducible refine zz3 ?_ ?_);rfl;refine ⟨_,rfl,fun h=>?_,fun h=>?_⟩ <;> try exact absurd h (by decide)))
     refine stop_callF rfl (by simp only [WD,simprocAttr]) rfl rfl (hct) ?_
     simp only [WD,simprocAttr,inX,dropS, ]
     (repeat (refine And.intro ?_ ?_;focus (clear hK';intros;simp_all;done)))
     (try (refine hK' _ _ ?_;clear hK' K'))
     repeat' (first|(with_reducible apply zz1)|((with_reducible refine zz4 ?_ ?_);rfl)|((with_reducible refine zz2 ?_ (fun K' hK'=>?_));rfl;simp only [WD,simprocAttr,hw2];(repeat (refine And.intro ?_ ?_;focus (clear hK';intros;simp_all;done)));(try (refine hK' _ _ ?_;clear hK' K')))|((with_reducible refine zz3 ?_ ?_);rfl;refine ⟨_,rfl,fun h=>?_,fun h=>?_⟩ <;> try exact absurd h (by decide)))
     refine ⟨j + 1,(by show j + 1 ≤ xls.length;omega),(by show xls.length - (j + 1) < xls.length - j;omega),by simp only [hsn];refine sub_of h0 ?_ ?_ ?_ <;> simp only [US,WD,simprocAttr]⟩
    | true =>
     rw [hb] at hct hsn
     rw [if_pos rfl] at hsn
     have hn3 : ((intL (xls.take j) yls).length + 1) * 16 ≤ 140737488355328:=by omega
     have hn4 : (intL (xls.take j) yls).length + 1 ≤ maxLen:=by unfold maxLen;omega
     have hm : (intL (xls.take j) yls).map sD ++ [sD l] = (intL (xls.take (j + 1)) yls).map sD:=by rw [hsn];simp
     repeat' (first|(with_reducible apply zz1)|((with_reducible refine zz4 ?_ ?_);rfl)|((with_reducible refine zz2 ?_ (fun K' hK'=>?_));rfl;simp only [WD,simprocAttr,Int.toNat_natCast,hj0,hj1,hg,List.length_map];(repeat (refine And.intro ?_ ?_;focus (clear hK';intros;simp_all;done)));(try (refine hK' _ _ ?_;clear hK' K')))|((with_reducible refine zz3 ?_ ?_);rfl;refine ⟨_,rfl,fun h=>?_,fun h=>?_⟩ <;> try exact absurd h (by decide)))
     refine stop_callF rfl (by simp only [WD,simprocAttr]) rfl rfl (hct) ?_
     simp only [WD,simprocAttr,inX,dropS, ]
     (repeat (refine And.intro ?_ ?_;focus (clear hK';intros;simp_all;done)))
     (try (refine hK' _ _ ?_;clear hK' K'))
     repeat' (first|(with_reducible apply zz1)|((with_reducible refine zz4 ?_ ?_);rfl)|((with_reducible refine zz2 ?_ (fun K' hK'=>?_));rfl;simp only [WD,simprocAttr,hw2,hn3,hn4,hm,List.length_map];(repeat (refine And.intro ?_ ?_;focus (clear hK';intros;simp_all;done)));(try (refine hK' _ _ ?_;clear hK' K')))|((with_reducible refine zz3 ?_ ?_);rfl;refine ⟨_,rfl,fun h=>?_,fun h=>?_⟩ <;> try exact absurd h (by decide)))
     refine ⟨j + 1,(by show j + 1 ≤ xls.length;omega),(by show xls.length - (j + 1) < xls.length - j;omega),by refine sub_of h0 ?_ ?_ ?_ <;> simp only [US,WD,simprocAttr]⟩
  · have hj1 : ¬ (j : Int) < (xls.length : Int):=by omega
    rw [List.take_of_length_le (by omega)]
    repeat' (first|(with_reducible apply zz1)|((with_reducible refine zz4 ?_ ?_);rfl)|((with_reducible refine zz2 ?_ (fun K' hK'=>?_));rfl;simp only [WD,simprocAttr,hj1];(repeat (refine And.intro ?_ ?_;focus (clear hK';intros;simp_all;done)));(try (refine hK' _ _ ?_;clear hK' K')))|((with_reducible refine zz3 ?_ ?_);rfl;refine ⟨_,rfl,fun h=>?_,fun h=>?_⟩ <;> try exact absurd h (by decide)))
    simp only [Kret,retL,retOne,oneV,WD,simprocAttr]
end Go.Proofs.YtgecnlcbdbaneaaDoor
