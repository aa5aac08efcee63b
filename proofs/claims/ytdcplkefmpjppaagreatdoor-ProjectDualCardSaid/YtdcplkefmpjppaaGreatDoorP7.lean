/- project.twin, project.Merge; a symbolic walk. -/
import Derived.Test.YtdcplkefmpjppaaGreatDoorP6
-- TYPESA
set_option linter.unusedVariables false
set_option linter.unusedSimpArgs false
namespace Go.Proofs.YtdcplkefmpjppaaGreatDoor.GG
open Go.RowKit Go.Sw
open Nat renaming reduceAdd → zn2

set_option maxHeartbeats 8000000 in
set_option maxRecDepth 100000 in
theorem ltwin_step (Γ : Gl) (k : Int) (wi : ByteArray) (so : Int) (nm : ByteArray) (ls : List ByteArray) (l : List Lt) (hl : l.length ≤ 6) (hls : ls.length ≤ 6) (ih : ∀ x ∈ l,DFn Tryz.prog Γ 31 [x.d] x.d) : DFn Tryz.prog Γ 31 [(Lt.mk k wi so nm ls l).d] (Lt.mk k wi so nm ls l).d:=by
 have hll:=Lt.ds_len l
 have hcS:=cloneS_d Γ ls (by omega)
 simp only [Lt.d]
 refine fn_of_swp (N:=34) Tryz.func31 rfl (by decide) rfl rfl (by simp) (fun C h0=>?_)
 simp only [argE]
 repeat' (first|(with_reducible apply zz1)|((with_reducible apply zz2);rfl;intro K' hK';simp only [WA,simprocAttr];(repeat (constructor;focus (clear hK';intros;simp_all;done)));(try (apply hK';clear hK' K')))|((with_reducible apply zz3);rfl;all_goals (intro h;try exact absurd h (by decide))))
 (with_reducible refine swp_drawX ?_ ?_ ?_ (⟨⟨[(10,.slc (ls.map sD))],[]⟩,[],[],[],[]⟩) _ rfl (fun K' hK' gops fin hgops hfin=>?_)
  · kernel_rfl
  · rfl
  · rfl
  repeat' first
   | (refine vcX_dead rfl trivial (by simp only [WA,simprocAttr,UX,UA];rfl) (by simp only [List.nil_append,List.cons_append];rfl) (by simp only [zn2];rfl) ?_)
   | (refine vcX_step rfl rfl trivial (by simp only [WA,simprocAttr,UX,UA,hcS,List.length_map ];rfl) ?_ (by simp only [WA,simprocAttr,UX,UA];rfl) (by simp only [WA,simprocAttr,UX,UA];rfl) (by simp only [List.nil_append,List.cons_append];rfl) (by simp only [zn2];rfl) ?_;focus (first | trivial | ((repeat' apply And.intro) <;> first | trivial | assumption | (clear hK' hfin hgops;intros;simp_all;done))))
  (refine vcX_nil (by subst hfin;kernel_rfl) ?_)
  clear hfin hgops fin gops
  (try (apply hK';clear hK' K')))
 repeat' (first|(with_reducible apply zz1)|((with_reducible apply zz2);rfl;intro K' hK';simp only [WA,simprocAttr,hll];(repeat (constructor;focus (clear hK';intros;simp_all;done)));(try (apply hK';clear hK' K')))|((with_reducible apply zz3);rfl;all_goals (intro h;try exact absurd h (by decide))))
 refine swp_nilB 14 5 15 6 rfl rfl rfl (by decide) ?_
 simp only [WA,simprocAttr]
 refine swp_loop (α := Nat) (fun j=>[(2,.ref 1 0),(3,.ref 14 0),(19,.d (.slc (Lt.ds l))),(20,.d (iD l.length)),(21,.d (iD j))])
  (fun j=>[(1,.cells [.d (iD 0),.d (sD noB),.d (iD 0),.d (sD noB),.nil,.nil]),(14,.cells [.d (iD k),.d (sD wi),.d (iD so),.d (sD nm),.d (.slc (ls.map sD)),.own 15]),(15,.row 6 (Lt.ds (l.take j)))])
  (fun j=>j ≤ l.length) (fun j=>l.length - j) 0 (Nat.zero_le _) (by refine sub_of h0 ?_ ?_ ?_ <;> simp only [US,WA,simprocAttr,hll,Lt.ds,List.take_zero]) (fun j hj=>?_)
 have hj : j ≤ l.length:=hj
 have hj0 : (0 : Int) ≤ (j : Int):=by omega
 have hal : (Lt.ds (l.take j)).length = j:=by rw [Lt.ds_len,List.length_take];omega
 by_cases hjl : j < l.length
 · obtain ⟨y,hy⟩ : ∃ y,l[j]? = some y:=⟨l[j],by simp [hjl]⟩
   have hcall:=ih y (List.mem_of_getElem? hy)
   have hget:=Lt.ds_get l j y hy
   have hj1 : (j : Int) < (l.length : Int):=by omega
   have hw2 : IntKind.i64.wrap ((j : Int) + 1) = ((j + 1 : Nat) : Int):=by rw [wrap_in (by omega) (by omega)];omega
   have hm : Lt.ds (l.take j) ++ [y.d] = Lt.ds (l.take (j + 1)):=by
    rw [List.take_add_one,hy,Lt.ds_app];rfl
   have hn5 : (j + 1) * 96 ≤ 140737488355328:=by omega
   have hn6 : j + 1 ≤ maxLen:=by unfold maxLen;omega
   obtain ⟨yk,yw,ys,yn,yls,yl⟩:=y
   simp only [Lt.d] at hget hcall hm
   repeat' (first|(with_reducible apply zz1)|((with_reducible apply zz2);rfl;intro K' hK';simp only [WA,simprocAttr,Int.toNat_natCast,hll,hget,hj0,hj1];(repeat (constructor;focus (clear hK';intros;simp_all;done)));(try (apply hK';clear hK' K')))|((with_reducible apply zz3);rfl;all_goals (intro h;try exact absurd h (by decide))))
   (with_reducible refine swp_drawX ?_ ?_ ?_ (⟨⟨[(3,.agg [iD yk,sD yw,iD ys,sD yn,.slc (yls.map sD),.slc (Lt.ds yl)])],[]⟩,[],[],[],[]⟩) _ rfl (fun K' hK' gops fin hgops hfin=>?_)
    · kernel_rfl
    · rfl
    · rfl
    repeat' first
     | (refine vcX_dead rfl trivial (by simp only [WA,simprocAttr,UX,UA];rfl) (by simp only [List.nil_append,List.cons_append];rfl) (by simp only [zn2];rfl) ?_)
     | (refine vcX_step rfl rfl trivial (by simp only [WA,simprocAttr,UX,UA,hcall,hal,hn5,hn6,hm,List.length_map ];rfl) ?_ (by simp only [WA,simprocAttr,UX,UA];rfl) (by simp only [WA,simprocAttr,UX,UA];rfl) (by simp only [List.nil_append,List.cons_append];rfl) (by simp only [zn2];rfl) ?_;focus (first | trivial | ((repeat' apply And.intro) <;> first | trivial | assumption | (clear hK' hfin hgops;intros;simp_all;done))))
    (refine vcX_nil (by subst hfin;kernel_rfl) ?_)
    clear hfin hgops fin gops
    (try (apply hK';clear hK' K')))
   repeat' (first|(with_reducible apply zz1)|((with_reducible apply zz2);rfl;intro K' hK';simp only [WA,simprocAttr,hw2];(repeat (constructor;focus (clear hK';intros;simp_all;done)));(try (apply hK';clear hK' K')))|((with_reducible apply zz3);rfl;all_goals (intro h;try exact absurd h (by decide))))
   refine ⟨j + 1,(by show j + 1 ≤ l.length;omega),(by show l.length - (j + 1) < l.length - j;omega),by refine sub_of h0 ?_ ?_ ?_ <;> simp only [US,WA,simprocAttr]⟩
 · have hj1 : ¬ (j : Int) < (l.length : Int):=by omega
   rw [List.take_of_length_le (by omega)]
   repeat' (first|(with_reducible apply zz1)|((with_reducible apply zz2);rfl;intro K' hK';simp only [WA,simprocAttr,hj1];(repeat (constructor;focus (clear hK';intros;simp_all;done)));(try (apply hK';clear hK' K')))|((with_reducible apply zz3);rfl;all_goals (intro h;try exact absurd h (by decide))))
   simp only [Kret,retL,retOne,oneV,WA,simprocAttr]
theorem ltwin_all (Γ : Gl) : ∀ (n : Nat) (x : Lt),OkL x → x.size ≤ n → DFn Tryz.prog Γ 31 [x.d] x.d
 | 0,x,_,h=>by have:=x.size_pos;omega
 | n + 1,.mk k wi so nm ls l,ho,h=>by
  obtain ⟨h1,h2,h3⟩:=okL_kids ho
  exact ltwin_step Γ k wi so nm ls l h1 h2 fun x hx=>ltwin_all Γ n x (h3 x hx) (by have:=Lt.size_mem hx;simp only [Lt.size] at h;omega)
end Go.Proofs.YtdcplkefmpjppaaGreatDoor.GG
/- duetref.sortWord, joined, LocalText: a text is told of each that is right; a symbolic walk (printed by mkp8.py). -/
-- TYPESA
namespace Go.Proofs.YtdcplkefmpjppaaGreatDoor.GG
open Go.RowKit Go.Sw

def sortWL (so : Int) : ByteArray:=if so = 1 then ⟨#[105,110,116]⟩ else if so = 2 then ⟨#[98,111,111,108]⟩ else ⟨#[116,101,120,116]⟩
theorem sortWL_size (so : Int) : (sortWL so).size ≤ 4:=by unfold sortWL;(repeat' split) <;> decide
set_option maxHeartbeats 4000000 in
set_option maxRecDepth 100000 in
theorem sortWord_fn (Γ : Gl) (so : Int) (h1 : 1 ≤ so) (h3 : so ≤ 3) : DFn Tryz.prog Γ 32 [iD so] (sD (sortWL so)):=by
 have m1 : 4 ≤ maxLen:=by unfold maxLen;omega
 rcases (show so = 1 ∨ so = 2 ∨ so = 3 by omega) with rfl | rfl | rfl
 · rw [show sortWL 1 = ⟨#[105,110,116]⟩ from rfl]
   refine fn_of_swp (N:=7) Tryz.func32 rfl (by decide) rfl rfl (by simp) (fun C h0=>?_)
   simp only [argE]
   repeat' (first|(with_reducible apply zz1)|((with_reducible apply zz2);rfl;intro K' hK';simp only [WA,simprocAttr,m1,List.getD_cons_zero,List.getD_cons_succ];(repeat (constructor;focus (clear hK';intros;simp_all;done)));(try (apply hK';clear hK' K')))|((with_reducible apply zz3);rfl;all_goals (intro h;try exact absurd h (by decide))))
   simp only [Kret,retL,retOne,oneV,WA,simprocAttr]
 · rw [show sortWL 2 = ⟨#[98,111,111,108]⟩ from rfl]
   refine fn_of_swp (N:=7) Tryz.func32 rfl (by decide) rfl rfl (by simp) (fun C h0=>?_)
   simp only [argE]
   repeat' (first|(with_reducible apply zz1)|((with_reducible apply zz2);rfl;intro K' hK';simp only [WA,simprocAttr,m1,List.getD_cons_zero,List.getD_cons_succ];(repeat (constructor;focus (clear hK';intros;simp_all;done)));(try (apply hK';clear hK' K')))|((with_reducible apply zz3);rfl;all_goals (intro h;try exact absurd h (by decide))))
   simp only [Kret,retL,retOne,oneV,WA,simprocAttr]
 · rw [show sortWL 3 = ⟨#[116,101,120,116]⟩ from rfl]
   refine fn_of_swp (N:=7) Tryz.func32 rfl (by decide) rfl rfl (by simp) (fun C h0=>?_)
   simp only [argE]
   repeat' (first|(with_reducible apply zz1)|((with_reducible apply zz2);rfl;intro K' hK';simp only [WA,simprocAttr,m1,List.getD_cons_zero,List.getD_cons_succ];(repeat (constructor;focus (clear hK';intros;simp_all;done)));(try (apply hK';clear hK' K')))|((with_reducible apply zz3);rfl;all_goals (intro h;try exact absurd h (by decide))))
   simp only [Kret,retL,retOne,oneV,WA,simprocAttr]
set_option maxHeartbeats 8000000 in
set_option maxRecDepth 100000 in
theorem ltext_end (Γ : Gl) : DFn Tryz.prog Γ 9 [(Lt.mk 1 noB 0 noB [] []).d] (sD ⟨#[101,110,100]⟩):=by
 simp only [Lt.d,Lt.ds,List.map_nil]
 refine fn_of_swp (N:=97) Tryz.func9 rfl (by decide) rfl rfl (by simp) (fun C h0=>?_)
 simp only [argE]
 repeat' (first|(with_reducible apply zz1)|((with_reducible apply zz2);rfl;intro K' hK';simp only [WA,simprocAttr,Int.reduceBEq];(repeat (constructor;focus (clear hK';intros;simp_all;done)));(try (apply hK';clear hK' K')))|((with_reducible apply zz3);rfl;all_goals (intro h;try exact absurd h (by decide))))
 simp only [Kret,retL,retOne,oneV,WA,simprocAttr]
set_option maxHeartbeats 8000000 in
set_option maxRecDepth 100000 in
theorem ltext_pass2 (Γ : Gl) (wi : ByteArray) (so : Int) (x : Lt) (T : ByteArray) (hw : wi.size = 1) (h1 : 1 ≤ so) (h3 : so ≤ 3) (hT : T.size ≤ 1000000) (hx : DFn Tryz.prog Γ 9 [x.d] (sD T)) : DFn Tryz.prog Γ 9 [(Lt.mk 2 wi so noB [] [x]).d] (sD (wi ++ ⟨#[33]⟩ ++ sortWL so ++ ⟨#[46]⟩ ++ T)):=by
 have hs:=sortWord_fn Γ so h1 h3
 have hz:=sortWL_size so
 generalize sortWL so = Z at *
 have b1 : (⟨#[33]⟩ : ByteArray).size = 1:=rfl
 have b2 : (⟨#[46]⟩ : ByteArray).size = 1:=rfl
 have z1 : (wi ++ ⟨#[33]⟩ : ByteArray).size = 2:=by rw [ByteArray.size_append,hw,b1]
 have z2 : (wi ++ ⟨#[33]⟩ ++ Z : ByteArray).size = 2 + Z.size:=by rw [ByteArray.size_append,z1]
 have z3 : (wi ++ ⟨#[33]⟩ ++ Z ++ ⟨#[46]⟩ : ByteArray).size = 2 + Z.size + 1:=by rw [ByteArray.size_append,z2,b2]
 have m0 : 1 + 1 ≤ maxLen:=by unfold maxLen;omega
 have m1 : 2 + Z.size ≤ maxLen:=by unfold maxLen;omega
 have m2 : 2 + Z.size + 1 ≤ maxLen:=by unfold maxLen;omega
 have m3 : 2 + Z.size + 1 + T.size ≤ maxLen:=by unfold maxLen;omega
 obtain ⟨xk,xw,xs,xn,xls,xl⟩:=x
 simp only [Lt.d,Lt.ds,List.map_nil] at hx ⊢
 refine fn_of_swp (N:=97) Tryz.func9 rfl (by decide) rfl rfl (by simp) (fun C h0=>?_)
 simp only [argE]
 repeat' (first|(with_reducible apply zz1)|((with_reducible apply zz2);rfl;intro K' hK';simp only [WA,simprocAttr,Int.reduceBEq];(repeat (constructor;focus (clear hK';intros;simp_all;done)));(try (apply hK';clear hK' K')))|((with_reducible apply zz3);rfl;all_goals (intro h;try exact absurd h (by decide))))
 (with_reducible refine swp_draw ?_ ?_ ?_ ( [(5,sD Z),(12,sD T)]) (fun K' hK'=>?_)
  · kernel_rfl
  · rfl
  · rfl
  simp only [WA,simprocAttr,UG,hx,hs,List.getD_cons_zero,List.length_cons,List.length_nil,List.map_cons,List.map_nil,hw,b1,b2,z1,z2,z3,m0,m1,m2,m3 ]
  (try (apply hK';clear hK' K')))
 repeat' (first|(with_reducible apply zz1)|((with_reducible apply zz2);rfl;intro K' hK';simp only [WA,simprocAttr];(repeat (constructor;focus (clear hK';intros;simp_all;done)));(try (apply hK';clear hK' K')))|((with_reducible apply zz3);rfl;all_goals (intro h;try exact absurd h (by decide))))
 simp only [Kret,retL,retOne,oneV,WA,simprocAttr]
set_option maxHeartbeats 8000000 in
set_option maxRecDepth 100000 in
theorem ltext_pass3 (Γ : Gl) (wi : ByteArray) (so : Int) (x : Lt) (T : ByteArray) (hw : wi.size = 1) (h1 : 1 ≤ so) (h3 : so ≤ 3) (hT : T.size ≤ 1000000) (hx : DFn Tryz.prog Γ 9 [x.d] (sD T)) : DFn Tryz.prog Γ 9 [(Lt.mk 3 wi so noB [] [x]).d] (sD (wi ++ ⟨#[63]⟩ ++ sortWL so ++ ⟨#[46]⟩ ++ T)):=by
 have hs:=sortWord_fn Γ so h1 h3
 have hz:=sortWL_size so
 generalize sortWL so = Z at *
 have b1 : (⟨#[63]⟩ : ByteArray).size = 1:=rfl
 have b2 : (⟨#[46]⟩ : ByteArray).size = 1:=rfl
 have z1 : (wi ++ ⟨#[63]⟩ : ByteArray).size = 2:=by rw [ByteArray.size_append,hw,b1]
 have z2 : (wi ++ ⟨#[63]⟩ ++ Z : ByteArray).size = 2 + Z.size:=by rw [ByteArray.size_append,z1]
 have z3 : (wi ++ ⟨#[63]⟩ ++ Z ++ ⟨#[46]⟩ : ByteArray).size = 2 + Z.size + 1:=by rw [ByteArray.size_append,z2,b2]
 have m0 : 1 + 1 ≤ maxLen:=by unfold maxLen;omega
 have m1 : 2 + Z.size ≤ maxLen:=by unfold maxLen;omega
 have m2 : 2 + Z.size + 1 ≤ maxLen:=by unfold maxLen;omega
 have m3 : 2 + Z.size + 1 + T.size ≤ maxLen:=by unfold maxLen;omega
 obtain ⟨xk,xw,xs,xn,xls,xl⟩:=x
 simp only [Lt.d,Lt.ds,List.map_nil] at hx ⊢
 refine fn_of_swp (N:=97) Tryz.func9 rfl (by decide) rfl rfl (by simp) (fun C h0=>?_)
 simp only [argE]
 repeat' (first|(with_reducible apply zz1)|((with_reducible apply zz2);rfl;intro K' hK';simp only [WA,simprocAttr,Int.reduceBEq];(repeat (constructor;focus (clear hK';intros;simp_all;done)));(try (apply hK';clear hK' K')))|((with_reducible apply zz3);rfl;all_goals (intro h;try exact absurd h (by decide))))
 (with_reducible refine swp_draw ?_ ?_ ?_ ( [(5,sD Z),(12,sD T)]) (fun K' hK'=>?_)
  · kernel_rfl
  · rfl
  · rfl
  simp only [WA,simprocAttr,UG,hx,hs,List.getD_cons_zero,List.length_cons,List.length_nil,List.map_cons,List.map_nil,hw,b1,b2,z1,z2,z3,m0,m1,m2,m3 ]
  (try (apply hK';clear hK' K')))
 repeat' (first|(with_reducible apply zz1)|((with_reducible apply zz2);rfl;intro K' hK';simp only [WA,simprocAttr];(repeat (constructor;focus (clear hK';intros;simp_all;done)));(try (apply hK';clear hK' K')))|((with_reducible apply zz3);rfl;all_goals (intro h;try exact absurd h (by decide))))
 simp only [Kret,retL,retOne,oneV,WA,simprocAttr]
end Go.Proofs.YtdcplkefmpjppaaGreatDoor.GG
/- The law ProjectMerge by a symbolic walk. -/
-- TYPESA
namespace Go.Proofs.YtdcplkefmpjppaaGreatDoor.GG
open Go.RowKit Go.Sw

theorem okL_sm : ∀ (n : Nat) (x : Lt),x.size ≤ n → OkL x → x.sm
 | 0,x,h,_=>by have:=x.size_pos;omega
 | n + 1,.mk k wi so nm ls l,h,ho=>by
  obtain ⟨h1,h2,h3⟩:=okL_kids ho
  have all : ∀ l : List Lt,Lt.sizes l ≤ n → (∀ x ∈ l,OkL x) → Lt.sms l:=by
   intro l
   induction l with
   | nil=>intro _ _;trivial
   | cons y l ih =>
    intro hz hh
    simp only [Lt.sizes] at hz
    exact ⟨okL_sm n y (by omega) (hh y (by simp)),ih (by omega) fun x hx=>hh x (by simp [hx])⟩
  exact ⟨⟨by omega,by omega⟩,all l (by simp only [Lt.size] at h;omega) h3⟩
theorem lCheck_zero {x : Lt} (h : OkL x) (hc : clB x [] = true) (hz : x.size ≤ 60) : lCheck x = 0:=by
 have:=lchk_eq x [] 60 (by omega) h hc
 rw [if_pos (by omega)] at this
 unfold lCheck
 rw [this]
def endL : Lt:=.mk 1 noB 0 noB [] []
end Go.Proofs.YtdcplkefmpjppaaGreatDoor.GG
