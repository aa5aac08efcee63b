/- project.alone, project.kind; a symbolic walk. -/
-- TYPESB
import Derived.Test.YtdcplkefmpjppaaGreatDoorP18
import Derived.Test.YtdcplkefmpjppaaGreatDoorP15
set_option linter.unusedVariables false
set_option linter.unusedSimpArgs false
namespace Go.Proofs.YtdcplkefmpjppaaGreatDoor.GG
open Go.RowKit Go.Sw
open Nat renaming reduceAdd → zn2

mutual
def hasL : Lt → Bool
 | .mk k wi so nm ls l=>if wi = noB then hasLs l else true
def hasLs : List Lt → Bool
 | []=>false
 | x :: l=>if hasL x = true then true else hasLs l
end
def alW (r : ByteArray) (x : Lt) (w : ByteArray) : ByteArray:=if hasL x = true then r else w
def alWs (r : ByteArray) (l : List Lt) (w : ByteArray) : ByteArray:=if hasLs l = true then r else w
theorem hasLs_app : ∀ (l : List Lt) (x : Lt),hasLs (l ++ [x]) = if hasLs l = true then true else hasL x
 | [],x=>by simp only [List.nil_append,hasLs];cases hasL x <;> rfl
 | y :: l,x=>by
  simp only [List.cons_append,hasLs,hasLs_app l x]
  by_cases h : hasL y = true <;> simp [h]
theorem alWs_app (r : ByteArray) (l : List Lt) (x : Lt) (w : ByteArray) : alWs r (l ++ [x]) w = alW r x (alWs r l w):=by
 unfold alWs alW
 rw [hasLs_app]
 cases hasLs l <;> cases hasL x <;> rfl
theorem alWs_or {r w : ByteArray} (l : List Lt) (h : w = noB ∨ w = r) : alWs r l w = noB ∨ alWs r l w = r:=by
 unfold alWs
 split
 · exact .inr rfl
 · exact h
def AlS (Γ : Gl) (r : ByteArray) (x : Lt) : Prop := ∀ w : ByteArray,(w = noB ∨ w = r) → SFn Tryz.prog Γ 38 [.d x.d,.ref 0 0] [(0,.cells [.d (sD w)])] (.d (.v (.bool true))) [(0,.cells [.d (sD (alW r x w))])]
def Al1 (Γ : Gl) (r : ByteArray) (x : Lt) : Prop := ∀ w : ByteArray,(w = noB ∨ w = r) → SFn Tryz.prog Γ 68 [.d x.d,.ref 1 0] [(0,.cells [.d (sD w)]),(1,.cells [.ref 0 0])] (.d (.v (.bool false))) [(0,.cells [.d (sD (alW r x w))]),(1,.cells [.ref 0 0])]
set_option maxHeartbeats 4000000 in
set_option maxRecDepth 100000 in
theorem alone1_fn (Γ : Gl) (r : ByteArray) (x : Lt) (h : AlS Γ r x) : Al1 Γ r x:=by
 intro w hw
 have hc:=h w hw
 generalize alW r x w = w' at *
 obtain ⟨k,wi,so,nm,ls,l⟩:=x
 simp only [Lt.d] at hc ⊢
 refine sfn_of_swp (N:=8) Tryz.func68 rfl (by decide) rfl rfl (by simp) (fun C h0=>?_)
 simp only [argS]
 repeat' (first|(with_reducible apply zz1)|((with_reducible apply zz2);rfl;intro K' hK';simp only [WB,simprocAttr];(repeat (constructor;focus (clear hK';intros;simp_all;done)));(try (apply hK';clear hK' K')))|((with_reducible apply zz3);rfl;all_goals (intro h;try exact absurd h (by decide))))
 refine stop_cS rfl (by simp only [UA,WB,simprocAttr]) (hc) ?_
 simp only [WB,simprocAttr,UM,Bool.not_true,Bool.not_false]
 (try (apply hK';clear hK' K'))
 repeat' (first|(with_reducible apply zz1)|((with_reducible apply zz2);rfl;intro K' hK';simp only [WB,simprocAttr];(repeat (constructor;focus (clear hK';intros;simp_all;done)));(try (apply hK';clear hK' K')))|((with_reducible apply zz3);rfl;all_goals (intro h;try exact absurd h (by decide))))
 simp only [KretS,retL,retOne,oneV,US,WB,simprocAttr,h0]
set_option maxHeartbeats 4000000 in
set_option maxRecDepth 100000 in
theorem indexA_fn (Γ : Gl) (r : ByteArray) (l : List Lt) (hl : l.length ≤ 140737488355328) (hf : ∀ x ∈ l,Al1 Γ r x) (w : ByteArray) (hw : w = noB ∨ w = r) :
 SFn Tryz.prog Γ 61 [.d (.slc (Lt.ds l)),.clo 68 [.ref 1 0]] [(0,.cells [.d (sD w)]),(1,.cells [.ref 0 0])] (.d (iD (-1))) [(0,.cells [.d (sD (alWs r l w))]),(1,.cells [.ref 0 0])]:=by
 have hll:=Lt.ds_len l
 refine sfn_of_swp (N:=19) Tryz.func61 rfl (by decide) rfl rfl (by simp) (fun C h0=>?_)
 simp only [argS]
 repeat' (first|(with_reducible apply zz1)|((with_reducible apply zz2);rfl;intro K' hK';simp only [WB,simprocAttr,hll];(repeat (constructor;focus (clear hK';intros;simp_all;done)));(try (apply hK';clear hK' K')))|((with_reducible apply zz3);rfl;all_goals (intro h;try exact absurd h (by decide))))
 refine swp_loop (α := Nat) (fun j=>[(0,.d (.slc (Lt.ds l))),(1,.clo 68 [.ref 1 0]),(7,.d (iD l.length)),(8,.d (iD j))]) (fun j=>[(0,.cells [.d (sD (alWs r (l.take j) w))]),(1,.cells [.ref 0 0])])
  (fun j=>j ≤ l.length) (fun j=>l.length - j) 0 (Nat.zero_le _) (by rw [show alWs r (l.take 0) w = w from rfl];refine sub_of h0 ?_ ?_ ?_ <;> simp only [US,WB,simprocAttr,hll]) (fun j hj=>?_)
 have hj : j ≤ l.length:=hj
 have hb0 : (0 : Int) ≤ (j : Int):=by omega
 have hor:=alWs_or (r:=r) (l.take j) hw
 by_cases hlt : j < l.length
 · obtain ⟨b,hx⟩ : ∃ b,l[j]? = some b:=⟨l[j],by simp [hlt]⟩
   have hcall:=hf b (List.mem_of_getElem? hx) _ hor
   have hstep : alW r b (alWs r (l.take j) w) = alWs r (l.take (j + 1)) w:=by
    rw [List.take_add_one,hx];exact (alWs_app r (l.take j) b w).symm
   rw [hstep] at hcall
   have hget:=Lt.ds_get l j b hx
   have hb1 : (j : Int) < (l.length : Int):=by omega
   have hw3 : IntKind.i64.wrap ((j : Int) + 1) = ((j + 1 : Nat) : Int):=by rw [wrap_in (by omega) (by omega)];omega
   generalize alWs r (l.take j) w = w1 at *
   obtain ⟨k,wi,so,nm,ls,l'⟩:=b
   simp only [Lt.d] at hget hcall
   repeat' (first|(with_reducible apply zz1)|((with_reducible apply zz2);rfl;intro K' hK';simp only [WB,simprocAttr,Int.toNat_natCast,hget,hll,hb0,hb1];(repeat (constructor;focus (clear hK';intros;simp_all;done)));(try (apply hK';clear hK' K')))|((with_reducible apply zz3);rfl;all_goals (intro h;try exact absurd h (by decide))))
   refine stop_callV rfl rfl (by simp only [UA,WB,simprocAttr]) (by simp only [UA,WB,simprocAttr]) (by simp only [UA,WB,simprocAttr]) (by simp only [UA,WB,simprocAttr]) (by simp only [UA,WB,simprocAttr]) (hcall) ?_
   simp only [WB,simprocAttr,UM, ]
   (try (apply hK';clear hK' K'))
   repeat' (first|(with_reducible apply zz1)|((with_reducible apply zz2);rfl;intro K' hK';simp only [WB,simprocAttr,hw3];(repeat (constructor;focus (clear hK';intros;simp_all;done)));(try (apply hK';clear hK' K')))|((with_reducible apply zz3);rfl;all_goals (intro h;try exact absurd h (by decide))))
   refine ⟨j + 1,(by show j + 1 ≤ l.length;omega),(by show l.length - (j + 1) < l.length - j;omega),by refine sub_of h0 ?_ ?_ ?_ <;> simp only [US,WB,simprocAttr]⟩
 · have hb1 : ¬ (j : Int) < (l.length : Int):=by omega
   rw [List.take_of_length_le (by omega)]
   repeat' (first|(with_reducible apply zz1)|((with_reducible apply zz2);rfl;intro K' hK';simp only [WB,simprocAttr,hb1];(repeat (constructor;focus (clear hK';intros;simp_all;done)));(try (apply hK';clear hK' K')))|((with_reducible apply zz3);rfl;all_goals (intro h;try exact absurd h (by decide))))
   simp only [KretS,retL,retOne,oneV,US,WB,simprocAttr,h0]
set_option maxHeartbeats 4000000 in
set_option maxRecDepth 100000 in
theorem containsA_fn (Γ : Gl) (r : ByteArray) (l : List Lt) (hl : l.length ≤ 140737488355328) (hf : ∀ x ∈ l,Al1 Γ r x) (w : ByteArray) (hw : w = noB ∨ w = r) :
 SFn Tryz.prog Γ 25 [.d (.slc (Lt.ds l)),.clo 68 [.ref 1 0]] [(0,.cells [.d (sD w)]),(1,.cells [.ref 0 0])] (.d (.v (.bool false))) [(0,.cells [.d (sD (alWs r l w))]),(1,.cells [.ref 0 0])]:=by
 have hc:=indexA_fn Γ r l hl hf w hw
 have hm : decide ((0 : Int) ≤ -1) = false:=by decide
 refine sfn_of_swp (N:=9) Tryz.func25 rfl (by decide) rfl rfl (by simp) (fun C h0=>?_)
 simp only [argS]
 repeat' (first|(with_reducible apply zz1)|((with_reducible apply zz2);rfl;intro K' hK';simp only [WB,simprocAttr];(repeat (constructor;focus (clear hK';intros;simp_all;done)));(try (apply hK';clear hK' K')))|((with_reducible apply zz3);rfl;all_goals (intro h;try exact absurd h (by decide))))
 refine stop_cS rfl (by simp only [UA,WB,simprocAttr]) (hc) ?_
 simp only [WB,simprocAttr,UM,hm]
 (try (apply hK';clear hK' K'))
 repeat' (first|(with_reducible apply zz1)|((with_reducible apply zz2);rfl;intro K' hK';simp only [WB,simprocAttr];(repeat (constructor;focus (clear hK';intros;simp_all;done)));(try (apply hK';clear hK' K')))|((with_reducible apply zz3);rfl;all_goals (intro h;try exact absurd h (by decide))))
 simp only [KretS,retL,retOne,oneV,US,WB,simprocAttr,h0]
def sw12 (i : Nat) : Nat:=if i = 1 then 2 else if i = 2 then 1 else i
theorem sw12_inj (i j : Nat) (h : sw12 i = sw12 j) : i = j:=by
 unfold sw12 at h
 (repeat' split at h) <;> omega
theorem ne_role {wi : ByteArray} (h : wi ≠ noB) : (wi.toList == ByteArray.toList ⟨#[]⟩) = false:=by
 rw [beq_eq_false_iff_ne]
 intro e
 exact h (toList_inj e)
set_option maxHeartbeats 8000000 in
set_option maxRecDepth 100000 in
theorem alone_node (Γ : Gl) (r : ByteArray) (hr : r ≠ noB) (k : Int) (wi : ByteArray) (so : Int) (nm : ByteArray) (ls : List ByteArray) (l : List Lt) (hl : l.length ≤ 6) (hwi : wi = noB ∨ wi = r) (ih : ∀ x ∈ l,AlS Γ r x) : AlS Γ r (.mk k wi so nm ls l):=by
 intro w hw
 have hC:=fun w hw=>(containsA_fn Γ r l (by omega) (fun x hx=>alone1_fn Γ r x (ih x hx)) w hw).ren sw12_inj
 simp only [SV.rens,SV.ren,renS,Box.ren] at hC
 rw [show sw12 0 = 0 from rfl,show sw12 1 = 2 from rfl] at hC
 have hll:=Lt.ds_len l
 simp only [Lt.d]
 unfold alW
 rw [hasL]
 by_cases h0w : wi = noB
 · have hc:=hC w hw
   subst h0w
   rw [if_pos rfl]
   have hg : (noB.toList == ByteArray.toList ⟨#[]⟩) = true:=by decide +kernel
   unfold alWs at hc
   generalize (if hasLs l = true then r else w) = w' at *
   clear hC
   refine sfn_of_swp (N:=27) Tryz.func38 rfl (by decide) rfl rfl (by simp) (fun C h0=>?_)
   simp only [argS]
   repeat' (first|(with_reducible apply zz1)|((with_reducible apply zz2);rfl;intro K' hK';simp only [WB,simprocAttr,hg,Bool.not_true,Bool.not_false];(repeat (constructor;focus (clear hK';intros;simp_all;done)));(try (apply hK';clear hK' K')))|((with_reducible apply zz3);rfl;all_goals (intro h;try exact absurd h (by decide))))
   refine stop_cS rfl (by simp only [UA,WB,simprocAttr]) (hc) ?_
   simp only [WB,simprocAttr,UM,Bool.not_true,Bool.not_false]
   (try (apply hK';clear hK' K'))
   repeat' (first|(with_reducible apply zz1)|((with_reducible apply zz2);rfl;intro K' hK';simp only [WB,simprocAttr];(repeat (constructor;focus (clear hK';intros;simp_all;done)));(try (apply hK';clear hK' K')))|((with_reducible apply zz3);rfl;all_goals (intro h;try exact absurd h (by decide))))
   simp only [KretS,retL,retOne,oneV,US,WB,simprocAttr,h0]
 · rw [if_neg h0w,if_pos rfl]
   obtain rfl : wi = r:=hwi.resolve_left h0w
   have hc:=hC wi (.inr rfl)
   have hcr : alWs wi l wi = wi:=by unfold alWs;split <;> rfl
   rw [hcr] at hc
   have hg:=ne_role h0w
   clear hC hcr
   rcases hw with rfl | rfl
   · have hz : (noB.toList == ByteArray.toList ⟨#[]⟩) = true:=by decide +kernel
     refine sfn_of_swp (N:=27) Tryz.func38 rfl (by decide) rfl rfl (by simp) (fun C h0=>?_)
     simp only [argS]
     repeat' (first|(with_reducible apply zz1)|((with_reducible apply zz2);rfl;intro K' hK';simp only [WB,simprocAttr,hg,hz,Bool.not_true,Bool.not_false];(repeat (constructor;focus (clear hK';intros;simp_all;done)));(try (apply hK';clear hK' K')))|((with_reducible apply zz3);rfl;all_goals (intro h;try exact absurd h (by decide))))
     -- TRACE
     (with_reducible refine swp_draw ?_ ?_ ?_ ([]) (fun K' hK'=>?_)
      · kernel_rfl
      · rfl
      · rfl
      simp only [WB,simprocAttr,UG,beq_self_eq_true,Bool.not_true,Bool.not_false]
      (try (apply hK';clear hK' K')))
     repeat' (first|(with_reducible apply zz1)|((with_reducible apply zz2);rfl;intro K' hK';simp only [WB,simprocAttr];(repeat (constructor;focus (clear hK';intros;simp_all;done)));(try (apply hK';clear hK' K')))|((with_reducible apply zz3);rfl;all_goals (intro h;try exact absurd h (by decide))))
     refine stop_cS rfl (by simp only [UA,WB,simprocAttr]) (hc) ?_
     simp only [WB,simprocAttr,UM,Bool.not_true,Bool.not_false]
     (try (apply hK';clear hK' K'))
     repeat' (first|(with_reducible apply zz1)|((with_reducible apply zz2);rfl;intro K' hK';simp only [WB,simprocAttr];(repeat (constructor;focus (clear hK';intros;simp_all;done)));(try (apply hK';clear hK' K')))|((with_reducible apply zz3);rfl;all_goals (intro h;try exact absurd h (by decide))))
     simp only [KretS,retL,retOne,oneV,US,WB,simprocAttr,h0]
   · have hz:=hg
     refine sfn_of_swp (N:=27) Tryz.func38 rfl (by decide) rfl rfl (by simp) (fun C h0=>?_)
     simp only [argS]
     repeat' (first|(with_reducible apply zz1)|((with_reducible apply zz2);rfl;intro K' hK';simp only [WB,simprocAttr,hg,hz,Bool.not_true,Bool.not_false];(repeat (constructor;focus (clear hK';intros;simp_all;done)));(try (apply hK';clear hK' K')))|((with_reducible apply zz3);rfl;all_goals (intro h;try exact absurd h (by decide))))
     (with_reducible refine swp_draw ?_ ?_ ?_ ([]) (fun K' hK'=>?_)
      · kernel_rfl
      · rfl
      · rfl
      simp only [WB,simprocAttr,UG,beq_self_eq_true,Bool.not_true,Bool.not_false]
      (try (apply hK';clear hK' K')))
     repeat' (first|(with_reducible apply zz1)|((with_reducible apply zz2);rfl;intro K' hK';simp only [WB,simprocAttr];(repeat (constructor;focus (clear hK';intros;simp_all;done)));(try (apply hK';clear hK' K')))|((with_reducible apply zz3);rfl;all_goals (intro h;try exact absurd h (by decide))))
     refine stop_cS rfl (by simp only [UA,WB,simprocAttr]) (hc) ?_
     simp only [WB,simprocAttr,UM,Bool.not_true,Bool.not_false]
     (try (apply hK';clear hK' K'))
     repeat' (first|(with_reducible apply zz1)|((with_reducible apply zz2);rfl;intro K' hK';simp only [WB,simprocAttr];(repeat (constructor;focus (clear hK';intros;simp_all;done)));(try (apply hK';clear hK' K')))|((with_reducible apply zz3);rfl;all_goals (intro h;try exact absurd h (by decide))))
     simp only [KretS,retL,retOne,oneV,US,WB,simprocAttr,h0]
theorem alone_all (Γ : Gl) (r : ByteArray) (hr : r ≠ noB) : ∀ (n : Nat) (x : Lt),OkL x → Wt r x → x.size ≤ n → AlS Γ r x
 | 0,x,_,_,h=>by have:=x.size_pos;omega
 | n + 1,.mk k wi so nm ls l,ho,hw,h=>by
  obtain ⟨h1,h2,h3⟩:=okL_kids ho
  unfold Wt at hw
  exact alone_node Γ r hr k wi so nm ls l h1 hw.1 fun x hx=>alone_all Γ r hr n x (h3 x hx) (Wts_iff.1 hw.2 x hx) (by have:=Lt.size_mem hx;simp only [Lt.size] at h;omega)
theorem kLTs_map : ∀ l,kLTs l = l.map kLT
 | []=>rfl
 | x :: l=>by simp [kLTs,kLTs_map l]
theorem tds_app : ∀ (l : List Tp) (x : Tp),Tp.ds (l ++ [x]) = Tp.ds l ++ [x.d]
 | [],x=>by simp [Tp.ds]
 | y :: l,x=>by simp [Tp.ds,tds_app l x]
set_option maxHeartbeats 8000000 in
set_option maxRecDepth 100000 in
theorem kindL_step (Γ : Gl) (k : Int) (wi : ByteArray) (so : Int) (nm : ByteArray) (ls : List ByteArray) (l : List Lt) (hl : l.length ≤ 6) (hls : ls.length ≤ 6) (ih : ∀ x ∈ l,DFn Tryz.prog Γ 39 [x.d] (kLT x).d) : DFn Tryz.prog Γ 39 [(Lt.mk k wi so nm ls l).d] (kLT (.mk k wi so nm ls l)).d:=by
 have hll:=Lt.ds_len l
 have hcS:=cloneS_d Γ ls (by omega)
 simp only [Lt.d,kLT,Tp.d]
 refine fn_of_swp (N:=32) Tryz.func39 rfl (by decide) rfl rfl (by simp) (fun C h0=>?_)
 simp only [argE]
 repeat' (first|(with_reducible apply zz1)|((with_reducible apply zz2);rfl;intro K' hK';simp only [WB,simprocAttr];(repeat (constructor;focus (clear hK';intros;simp_all;done)));(try (apply hK';clear hK' K')))|((with_reducible apply zz3);rfl;all_goals (intro h;try exact absurd h (by decide))))
 (with_reducible refine swp_drawX ?_ ?_ ?_ (⟨⟨[(8,.slc (ls.map sD))],[]⟩,[],[],[],[]⟩) _ rfl (fun K' hK' gops fin hgops hfin=>?_)
  · kernel_rfl
  · rfl
  · rfl
  repeat' first
   | (refine vcX_dead rfl trivial (by simp only [WB,simprocAttr,UX,UA];rfl) (by simp only [List.nil_append,List.cons_append];rfl) (by simp only [zn2];rfl) ?_)
   | (refine vcX_step rfl rfl trivial (by simp only [WB,simprocAttr,UX,UA,hcS,List.length_map ];rfl) ?_ (by simp only [WB,simprocAttr,UX,UA];rfl) (by simp only [WB,simprocAttr,UX,UA];rfl) (by simp only [List.nil_append,List.cons_append];rfl) (by simp only [zn2];rfl) ?_;focus (first | trivial | ((repeat' apply And.intro) <;> first | trivial | assumption | (clear hK' hfin hgops;intros;simp_all;done))))
  (refine vcX_nil (by subst hfin;kernel_rfl) ?_)
  clear hfin hgops fin gops
  (try (apply hK';clear hK' K')))
 repeat' (first|(with_reducible apply zz1)|((with_reducible apply zz2);rfl;intro K' hK';simp only [WB,simprocAttr,hll];(repeat (constructor;focus (clear hK';intros;simp_all;done)));(try (apply hK';clear hK' K')))|((with_reducible apply zz3);rfl;all_goals (intro h;try exact absurd h (by decide))))
 refine swp_nilB 12 4 13 5 rfl rfl rfl (by decide) ?_
 simp only [WB,simprocAttr]
 refine swp_loop (α := Nat) (fun j=>[(2,.ref 1 0),(3,.ref 12 0),(17,.d (.slc (Lt.ds l))),(18,.d (iD l.length)),(19,.d (iD j))])
  (fun j=>[(1,.cells [.d (iD 0),.d (iD 0),.d (sD noB),.nil,.nil]),(12,.cells [.d (iD k),.d (iD so),.d (sD nm),.d (.slc (ls.map sD)),.own 13]),(13,.row 5 (Tp.ds (kLTs (l.take j))))])
  (fun j=>j ≤ l.length) (fun j=>l.length - j) 0 (Nat.zero_le _) (by refine sub_of h0 ?_ ?_ ?_ <;> simp only [US,WB,simprocAttr,hll,Tp.ds,kLTs,List.take_zero]) (fun j hj=>?_)
 have hj : j ≤ l.length:=hj
 have hj0 : (0 : Int) ≤ (j : Int):=by omega
 have hal : (Tp.ds (kLTs (l.take j))).length = j:=by rw [Tp.ds_len,kLTs_map,List.length_map,List.length_take];omega
 by_cases hjl : j < l.length
 · obtain ⟨y,hy⟩ : ∃ y,l[j]? = some y:=⟨l[j],by simp [hjl]⟩
   have hcall:=ih y (List.mem_of_getElem? hy)
   have hget:=Lt.ds_get l j y hy
   have hj1 : (j : Int) < (l.length : Int):=by omega
   have hw2 : IntKind.i64.wrap ((j : Int) + 1) = ((j + 1 : Nat) : Int):=by rw [wrap_in (by omega) (by omega)];omega
   have hm : Tp.ds (kLTs (l.take j)) ++ [(kLT y).d] = Tp.ds (kLTs (l.take (j + 1))):=by
    rw [List.take_add_one,hy,kLTs_map,kLTs_map,List.map_append, ← tds_app];rfl
   have hn5 : (j + 1) * 80 ≤ 140737488355328:=by omega
   have hn6 : j + 1 ≤ maxLen:=by unfold maxLen;omega
   generalize kLT y = z at *
   obtain ⟨yk,yw,ys,yn,yls,yl⟩:=y
   obtain ⟨zk,zs,zn,zls,zl⟩:=z
   simp only [Lt.d,Tp.d] at hget hcall hm
   repeat' (first|(with_reducible apply zz1)|((with_reducible apply zz2);rfl;intro K' hK';simp only [WB,simprocAttr,Int.toNat_natCast,hll,hget,hj0,hj1];(repeat (constructor;focus (clear hK';intros;simp_all;done)));(try (apply hK';clear hK' K')))|((with_reducible apply zz3);rfl;all_goals (intro h;try exact absurd h (by decide))))
   (with_reducible refine swp_drawX ?_ ?_ ?_ (⟨⟨[(3,.agg [iD zk,iD zs,sD zn,.slc (zls.map sD),.slc (Tp.ds zl)])],[]⟩,[],[],[],[]⟩) _ rfl (fun K' hK' gops fin hgops hfin=>?_)
    · kernel_rfl
    · rfl
    · rfl
    repeat' first
     | (refine vcX_dead rfl trivial (by simp only [WB,simprocAttr,UX,UA];rfl) (by simp only [List.nil_append,List.cons_append];rfl) (by simp only [zn2];rfl) ?_)
     | (refine vcX_step rfl rfl trivial (by simp only [WB,simprocAttr,UX,UA,hcall,hal,hn5,hn6,hm,List.length_map ];rfl) ?_ (by simp only [WB,simprocAttr,UX,UA];rfl) (by simp only [WB,simprocAttr,UX,UA];rfl) (by simp only [List.nil_append,List.cons_append];rfl) (by simp only [zn2];rfl) ?_;focus (first | trivial | ((repeat' apply And.intro) <;> first | trivial | assumption | (clear hK' hfin hgops;intros;simp_all;done))))
    (refine vcX_nil (by subst hfin;kernel_rfl) ?_)
    clear hfin hgops fin gops
    (try (apply hK';clear hK' K')))
   repeat' (first|(with_reducible apply zz1)|((with_reducible apply zz2);rfl;intro K' hK';simp only [WB,simprocAttr,hw2];(repeat (constructor;focus (clear hK';intros;simp_all;done)));(try (apply hK';clear hK' K')))|((with_reducible apply zz3);rfl;all_goals (intro h;try exact absurd h (by decide))))
   refine ⟨j + 1,(by show j + 1 ≤ l.length;omega),(by show l.length - (j + 1) < l.length - j;omega),by refine sub_of h0 ?_ ?_ ?_ <;> simp only [US,WB,simprocAttr]⟩
 · have hj1 : ¬ (j : Int) < (l.length : Int):=by omega
   rw [List.take_of_length_le (by omega)]
   repeat' (first|(with_reducible apply zz1)|((with_reducible apply zz2);rfl;intro K' hK';simp only [WB,simprocAttr,hj1];(repeat (constructor;focus (clear hK';intros;simp_all;done)));(try (apply hK';clear hK' K')))|((with_reducible apply zz3);rfl;all_goals (intro h;try exact absurd h (by decide))))
   simp only [Kret,retL,retOne,oneV,WB,simprocAttr]
theorem kindL_all (Γ : Gl) : ∀ (n : Nat) (x : Lt),OkL x → x.size ≤ n → DFn Tryz.prog Γ 39 [x.d] (kLT x).d
 | 0,x,_,h=>by have:=x.size_pos;omega
 | n + 1,.mk k wi so nm ls l,ho,h=>by
  obtain ⟨h1,h2,h3⟩:=okL_kids ho
  exact kindL_step Γ k wi so nm ls l h1 h2 fun x hx=>kindL_all Γ n x (h3 x hx) (by have:=Lt.size_mem hx;simp only [Lt.size] at h;omega)
set_option maxHeartbeats 8000000 in
set_option maxRecDepth 100000 in
theorem pType_fn (Γ : Gl) (r : ByteArray) (hr : r ≠ noB) (x : Lt) (hc : lCheck x = 0) (hw : Wt r x) : DFn Tryz.prog Γ 11 [x.d] (.tup [(kLT x).d,iD 0]):=by
 obtain ⟨ho, -,hz⟩:=okL_check hc
 have h1:=LCheck_fn Γ x (okL_sm _ x (Nat.le_refl _) ho)
 rw [hc] at h1
 have h2:=(alone_all Γ r hr _ x ho hw (Nat.le_refl _) noB (.inl rfl)).up 2
 simp only [SV.rens,SV.ren,renS,Box.ren] at h2
 have h3:=kindL_all Γ _ x ho (Nat.le_refl _)
 generalize alW r x noB = w' at *
 generalize kLT x = z at *
 obtain ⟨k,wi,so,nm,ls,l⟩:=x
 obtain ⟨zk,zs,zn,zls,zl⟩:=z
 simp only [Lt.d,Tp.d] at h1 h2 h3 ⊢
 refine fn_of_swp (N:=18) Tryz.func11 rfl (by decide) rfl rfl (by simp) (fun C h0=>?_)
 simp only [argE]
 repeat' (first|(with_reducible apply zz1)|((with_reducible apply zz2);rfl;intro K' hK';simp only [WB,simprocAttr];(repeat (constructor;focus (clear hK';intros;simp_all;done)));(try (apply hK';clear hK' K')))|((with_reducible apply zz3);rfl;all_goals (intro h;try exact absurd h (by decide))))
 refine stop_callF rfl (by simp only [WB,simprocAttr]) rfl rfl (h1) ?_
 simp only [WB,simprocAttr,inX,dropS, ]
 (repeat (constructor;focus (clear hK';intros;simp_all;done)))
 (try (apply hK';clear hK' K'))
 repeat' (first|(with_reducible apply zz1)|((with_reducible apply zz2);rfl;intro K' hK';simp only [WB,simprocAttr,bne_self_eq_false];(repeat (constructor;focus (clear hK';intros;simp_all;done)));(try (apply hK';clear hK' K')))|((with_reducible apply zz3);rfl;all_goals (intro h;try exact absurd h (by decide))))
 refine stop_cS rfl (by simp only [UA,WB,simprocAttr]) (h2) ?_
 simp only [WB,simprocAttr,UM,Bool.not_true,Bool.not_false]
 (try (apply hK';clear hK' K'))
 repeat' (first|(with_reducible apply zz1)|((with_reducible apply zz2);rfl;intro K' hK';simp only [WB,simprocAttr];(repeat (constructor;focus (clear hK';intros;simp_all;done)));(try (apply hK';clear hK' K')))|((with_reducible apply zz3);rfl;all_goals (intro h;try exact absurd h (by decide))))
 refine stop_call h0 rfl (by simp only [WB,simprocAttr]) rfl (by simp only [keepS,Option.isSome_some,WB,simprocAttr]) (h3) ?_
 simp only [WB,simprocAttr,inX,dropS, ]
 (repeat (constructor;focus (clear hK';intros;simp_all;done)))
 (try (apply hK';clear hK' K'))
 repeat' (first|(with_reducible apply zz1)|((with_reducible apply zz2);rfl;intro K' hK';simp only [WB,simprocAttr];(repeat (constructor;focus (clear hK';intros;simp_all;done)));(try (apply hK';clear hK' K')))|((with_reducible apply zz3);rfl;all_goals (intro h;try exact absurd h (by decide))))
 simp only [Kret,retL,retOne,oneV,WB,simprocAttr]
end Go.Proofs.YtdcplkefmpjppaaGreatDoor.GG
