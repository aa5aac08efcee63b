/- types' reader: what is passed; a symbolic walk. -/
-- TYPESA
import Derived.Test.YtdcplkefmpjppaaDoorDT3
import Derived.Test.YtdcplkefmpjppaaDoorDT7
import Derived.Test.YtdcplkefmpjppaaDoorSwD
set_option linter.unusedVariables false
set_option linter.unusedSimpArgs false
namespace Go.Proofs.YtdcplkefmpjppaaDoor.GG
open Go.RowKit Go.Sw
open Nat renaming reduceAdd → zn2
open Go.Sw renaming swp_seq → zw0, swp_block → zw1, swp_skip → zw2, swp_ret → zw3, swp_exit → zw4, swp_label → zw5, kseq_n → zw6, kseq_x → zw7, kseq_r → zw8, kblk_n → zw9, kblk_r → zw10, kblk_xs → zw11, kblk_xn → zw12, kloop_x → zw13, kloop_r → zw14, swp_cond → zw15

inductive Rt where
 | ok (x : Tp) (b : Nat)
 | no (b : Nat)
def RdT (Γ : Gl) (s : ByteArray) (f : FuncId) (more : List SV) (a : Nat) : Rt → Prop
 | .ok x b=>SFn Tryd.prog Γ f (.ref 0 0 :: more) (rBox s a) (.d x.d) (rBox s b)
 | .no b=>XFn Tryd.prog Γ f (.ref 0 0 :: more) (rBox s a) (failV 3 (b : Nat)) (rBox s b)
theorem skip_again : ∀ l : List UInt8,skipB (l.drop (skipB l)) = 0
 | []=>rfl
 | c :: l=>by
  by_cases h : c.toNat = 32
  · have e : skipB (c :: l) = skipB l + 1:=by rw [skipB,if_pos h]
    rw [e,List.drop_succ_cons]
    exact skip_again l
  · have e : skipB (c :: l) = 0:=by rw [skipB,if_neg h]
    rw [e,List.drop_zero,e]
theorem is_l (Γ : Gl) (s : ByteArray) (hs : s.size ≤ 2000) (a : Nat) (ha : a ≤ s.size) (c : Nat) (i : Int) (hi : (c : Int) = i) : SFn Tryd.prog Γ 136 [.ref 0 0,.d (.v (.int .u8 i))] (rBox s a) (.d (.v (.bool (isB s a c)))) (rBox s (wAt s a)):=by
 subst hi;exact is_fn Γ s hs a ha c
theorem sign_l (Γ : Gl) (s : ByteArray) (hs : s.size ≤ 2000) (a : Nat) (ha : a ≤ s.size) (c : Nat) (i : Int) (hi : (c : Int) = i) (h : isB s a c = true) : SFn Tryd.prog Γ 135 [.ref 0 0,.d (.v (.int .u8 i))] (rBox s a) (.tup []) (rBox s (wAt s a + 1)):=by
 subst hi;exact sign_ok Γ s hs a ha c h
theorem sign_x (Γ : Gl) (s : ByteArray) (hs : s.size ≤ 2000) (a : Nat) (ha : a ≤ s.size) (c : Nat) (i : Int) (hi : (c : Int) = i) (h : isB s a c = false) : XFn Tryd.prog Γ 135 [.ref 0 0,.d (.v (.int .u8 i))] (rBox s a) (failV 3 (wAt s a : Nat)) (rBox s (wAt s a)):=by
 subst hi;exact sign_no Γ s hs a ha c h
theorem wAt_again (s : ByteArray) (a : Nat) : wAt s (wAt s a) = wAt s a:=by
 unfold wAt
 rw [← List.drop_drop,skip_again]
 rfl
theorem isB_lt {s : ByteArray} {a c : Nat} (h : isB s a c = true) : wAt s a < s.size:=by
 unfold isB at h
 split at h
 · assumption
 · cases h
theorem isB_at {s : ByteArray} {a c : Nat} : isB s (wAt s a) c = isB s a c:=by
 unfold isB
 rw [wAt_again]
theorem wOf_at (s : ByteArray) (a : Nat) : wOf s (wAt s a) = wOf s a:=by
 unfold wOf
 rw [wAt_again]
theorem wOf_in (s : ByteArray) (a : Nat) (ha : a ≤ s.size) : wAt s a + (wOf s a).size ≤ s.size:=by
 have h1:=(wAt_in s a ha).2
 have h2 : (wOf s a).size ≤ (s.extract (wAt s a) s.size).size:=by
  unfold wOf wordL
  rw [ByteArray.size_extract];omega
 rw [ByteArray.size_extract] at h2
 omega
theorem idx_in (w : List UInt8) : ∀ (l : List ByteArray) (j : Nat), -1 ≤ idxS w l j ∧ idxS w l j < (j + l.length : Nat)
 | [],j=>by unfold idxS;simp only [List.length_nil];omega
 | b :: l,j=>by
  unfold idxS
  split
  · simp only [List.length_cons];omega
  · have:=idx_in w l (j + 1)
    simp only [List.length_cons];omega
set_option maxHeartbeats 8000000 in
set_option maxRecDepth 100000 in
theorem passed_no1 (Γ : Gl) (s : ByteArray) (hs : s.size ≤ 2000) (v c : Int) (a : Nat) (ha : a < s.size) (hq : isB s (a + 1) 123 = true) (b : Nat) (h1 : RdT Γ s 122 [] (wAt s (a + 1) + 1) (.no b)) : RdT Γ s 137 [.d (iD v),.d (iD c)] a (.no b):=by
 have hi:=is_l Γ s hs (a + 1) (by omega) 123 123 rfl
 rw [hq] at hi
 have hq1:=isB_lt hq
 have hwa : IntKind.i64.wrap ((a : Int) + 1) = ((a + 1 : Nat) : Int):=by rw [wrap_in (by omega) (by omega)];omega
 have hwq : IntKind.i64.wrap ((wAt s (a + 1) : Int) + 1) = ((wAt s (a + 1) + 1 : Nat) : Int):=by rw [wrap_in (by omega) (by omega)];omega
 unfold RdT at h1 ⊢
 generalize wAt s (a + 1) = q at *
 unfold rBox at hi h1 ⊢
 refine xfn_of_swp (N:=64) Tryd.func137 rfl (by decide) rfl (by simp) (fun C h0=>?_)
 simp only [argS]
 repeat' (first|(with_reducible apply zz1)|((with_reducible apply zz2);rfl;intro K' hK';simp only [WA,simprocAttr,hwa];(repeat (constructor;focus (clear hK';intros;simp_all;done)));(try (apply hK';clear hK' K')))|((with_reducible apply zz3);rfl;all_goals (intro h;try exact absurd h (by decide))))
 refine stop_cS rfl (by simp only [UA,WA,simprocAttr]) (hi) ?_
 simp only [WA,simprocAttr,UM, ]
 (try (apply hK';clear hK' K'))
 repeat' (first|(with_reducible first|apply zw0|apply zw1|apply zw2|apply zw3|apply zw4|apply zw5|apply zw6|apply zw7|apply zw8|apply zw9|apply zw10|apply zw11|apply zw13|apply zw14)|((with_reducible refine zw12 ?_ ?_);rfl)|((with_reducible refine swp_regionX ?_ ?_ (fun K' hK' hP'=>?_));rfl;rfl;simp only [WA,simprocAttr,hwq];(repeat (constructor;focus (clear hK' hP';intros;simp_all;done)));(try (apply hK';clear hK' hP';clear K')))|((with_reducible refine zw15 ?_ ?_);rfl;refine ⟨_,rfl,fun h=>?_,fun h=>?_⟩ <;> try exact absurd h (by decide)))
 refine stop_cX rfl (by simp only [UA,WA,simprocAttr]) (h1) ?_
 simp only [UM,WA,simprocAttr]
 refine hP' _ _ _ ?_
 repeat (first | refine kseq_p ?_ | refine kblk_p ?_ | refine kloop_p ?_)
 simp only [KpanS,US,WA,simprocAttr,h0]
set_option maxHeartbeats 8000000 in
set_option maxRecDepth 100000 in
theorem passed_no2 (Γ : Gl) (s : ByteArray) (hs : s.size ≤ 2000) (v c : Int) (a : Nat) (ha : a < s.size) (hq : isB s (a + 1) 123 = true) (x : Tp) (b : Nat) (hb : b ≤ s.size) (h1 : RdT Γ s 122 [] (wAt s (a + 1) + 1) (.ok x b)) (hb2 : isB s b 125 = false) : RdT Γ s 137 [.d (iD v),.d (iD c)] a (.no (wAt s b)):=by
 have hi:=is_l Γ s hs (a + 1) (by omega) 123 123 rfl
 rw [hq] at hi
 have hq1:=isB_lt hq
 have hwa : IntKind.i64.wrap ((a : Int) + 1) = ((a + 1 : Nat) : Int):=by rw [wrap_in (by omega) (by omega)];omega
 have hwq : IntKind.i64.wrap ((wAt s (a + 1) : Int) + 1) = ((wAt s (a + 1) + 1 : Nat) : Int):=by rw [wrap_in (by omega) (by omega)];omega
 have hs2:=sign_x Γ s hs b hb 125 125 rfl hb2
 unfold RdT at h1 ⊢
 generalize wAt s (a + 1) = q at *
 generalize wAt s b = e at *
 obtain ⟨xk,xso,xnm,xls,xl⟩:=x
 simp only [Tp.d] at h1
 unfold rBox at hi h1 hs2 ⊢
 refine xfn_of_swp (N:=64) Tryd.func137 rfl (by decide) rfl (by simp) (fun C h0=>?_)
 simp only [argS]
 repeat' (first|(with_reducible apply zz1)|((with_reducible apply zz2);rfl;intro K' hK';simp only [WA,simprocAttr,hwa];(repeat (constructor;focus (clear hK';intros;simp_all;done)));(try (apply hK';clear hK' K')))|((with_reducible apply zz3);rfl;all_goals (intro h;try exact absurd h (by decide))))
 refine stop_cS rfl (by simp only [UA,WA,simprocAttr]) (hi) ?_
 simp only [WA,simprocAttr,UM, ]
 (try (apply hK';clear hK' K'))
 repeat' (first|(with_reducible apply zz1)|((with_reducible apply zz2);rfl;intro K' hK';simp only [WA,simprocAttr,hwq];(repeat (constructor;focus (clear hK';intros;simp_all;done)));(try (apply hK';clear hK' K')))|((with_reducible apply zz3);rfl;all_goals (intro h;try exact absurd h (by decide))))
 refine stop_cS rfl (by simp only [UA,WA,simprocAttr]) (h1) ?_
 simp only [WA,simprocAttr,UM, ]
 (try (apply hK';clear hK' K'))
 repeat' (first|(with_reducible first|apply zw0|apply zw1|apply zw2|apply zw3|apply zw4|apply zw5|apply zw6|apply zw7|apply zw8|apply zw9|apply zw10|apply zw11|apply zw13|apply zw14)|((with_reducible refine zw12 ?_ ?_);rfl)|((with_reducible refine swp_regionX ?_ ?_ (fun K' hK' hP'=>?_));rfl;rfl;simp only [WA,simprocAttr];(repeat (constructor;focus (clear hK' hP';intros;simp_all;done)));(try (apply hK';clear hK' hP';clear K')))|((with_reducible refine zw15 ?_ ?_);rfl;refine ⟨_,rfl,fun h=>?_,fun h=>?_⟩ <;> try exact absurd h (by decide)))
 refine stop_cX rfl (by simp only [UA,WA,simprocAttr]) (hs2) ?_
 simp only [UM,WA,simprocAttr]
 refine hP' _ _ _ ?_
 repeat (first | refine kseq_p ?_ | refine kblk_p ?_ | refine kloop_p ?_)
 simp only [KpanS,US,WA,simprocAttr,h0]
set_option maxHeartbeats 8000000 in
set_option maxRecDepth 100000 in
theorem passed_no3 (Γ : Gl) (s : ByteArray) (hs : s.size ≤ 2000) (v c : Int) (a : Nat) (ha : a < s.size) (hq : isB s (a + 1) 123 = true) (x : Tp) (b : Nat) (hb : b ≤ s.size) (h1 : RdT Γ s 122 [] (wAt s (a + 1) + 1) (.ok x b)) (hb2 : isB s b 125 = true) (hb3 : isB s (wAt s b + 1) 46 = false) : RdT Γ s 137 [.d (iD v),.d (iD c)] a (.no (wAt s (wAt s b + 1))):=by
 have hi:=is_l Γ s hs (a + 1) (by omega) 123 123 rfl
 rw [hq] at hi
 have hq1:=isB_lt hq
 have hwa : IntKind.i64.wrap ((a : Int) + 1) = ((a + 1 : Nat) : Int):=by rw [wrap_in (by omega) (by omega)];omega
 have hwq : IntKind.i64.wrap ((wAt s (a + 1) : Int) + 1) = ((wAt s (a + 1) + 1 : Nat) : Int):=by rw [wrap_in (by omega) (by omega)];omega
 have hs2:=sign_l Γ s hs b hb 125 125 rfl hb2
 have hb4:=isB_lt hb2
 have hs3:=sign_x Γ s hs (wAt s b + 1) (by omega) 46 46 rfl hb3
 unfold RdT at h1 ⊢
 generalize wAt s (a + 1) = q at *
 generalize wAt s (wAt s b + 1) = e2 at *
 generalize wAt s b = e at *
 obtain ⟨xk,xso,xnm,xls,xl⟩:=x
 simp only [Tp.d] at h1
 unfold rBox at hi h1 hs2 hs3 ⊢
 refine xfn_of_swp (N:=64) Tryd.func137 rfl (by decide) rfl (by simp) (fun C h0=>?_)
 simp only [argS]
 repeat' (first|(with_reducible apply zz1)|((with_reducible apply zz2);rfl;intro K' hK';simp only [WA,simprocAttr,hwa];(repeat (constructor;focus (clear hK';intros;simp_all;done)));(try (apply hK';clear hK' K')))|((with_reducible apply zz3);rfl;all_goals (intro h;try exact absurd h (by decide))))
 refine stop_cS rfl (by simp only [UA,WA,simprocAttr]) (hi) ?_
 simp only [WA,simprocAttr,UM, ]
 (try (apply hK';clear hK' K'))
 repeat' (first|(with_reducible apply zz1)|((with_reducible apply zz2);rfl;intro K' hK';simp only [WA,simprocAttr,hwq];(repeat (constructor;focus (clear hK';intros;simp_all;done)));(try (apply hK';clear hK' K')))|((with_reducible apply zz3);rfl;all_goals (intro h;try exact absurd h (by decide))))
 refine stop_cS rfl (by simp only [UA,WA,simprocAttr]) (h1) ?_
 simp only [WA,simprocAttr,UM, ]
 (try (apply hK';clear hK' K'))
 repeat' (first|(with_reducible apply zz1)|((with_reducible apply zz2);rfl;intro K' hK';simp only [WA,simprocAttr];(repeat (constructor;focus (clear hK';intros;simp_all;done)));(try (apply hK';clear hK' K')))|((with_reducible apply zz3);rfl;all_goals (intro h;try exact absurd h (by decide))))
 refine stop_cS rfl (by simp only [UA,WA,simprocAttr]) (hs2) ?_
 simp only [WA,simprocAttr,UM, ]
 (try (apply hK';clear hK' K'))
 repeat' (first|(with_reducible first|apply zw0|apply zw1|apply zw2|apply zw3|apply zw4|apply zw5|apply zw6|apply zw7|apply zw8|apply zw9|apply zw10|apply zw11|apply zw13|apply zw14)|((with_reducible refine zw12 ?_ ?_);rfl)|((with_reducible refine swp_regionX ?_ ?_ (fun K' hK' hP'=>?_));rfl;rfl;simp only [WA,simprocAttr];(repeat (constructor;focus (clear hK' hP';intros;simp_all;done)));(try (apply hK';clear hK' hP';clear K')))|((with_reducible refine zw15 ?_ ?_);rfl;refine ⟨_,rfl,fun h=>?_,fun h=>?_⟩ <;> try exact absurd h (by decide)))
 refine stop_cX rfl (by simp only [UA,WA,simprocAttr]) (hs3) ?_
 simp only [UM,WA,simprocAttr]
 refine hP' _ _ _ ?_
 repeat (first | refine kseq_p ?_ | refine kblk_p ?_ | refine kloop_p ?_)
 simp only [KpanS,US,WA,simprocAttr,h0]
set_option maxHeartbeats 8000000 in
set_option maxRecDepth 100000 in
theorem passed_no4 (Γ : Gl) (s : ByteArray) (hs : s.size ≤ 2000) (v c : Int) (a : Nat) (ha : a < s.size) (hq : isB s (a + 1) 123 = true) (x : Tp) (b : Nat) (hb : b ≤ s.size) (h1 : RdT Γ s 122 [] (wAt s (a + 1) + 1) (.ok x b)) (hb2 : isB s b 125 = true) (hb3 : isB s (wAt s b + 1) 46 = true) (d : Nat) (h2 : RdT Γ s 122 [] (wAt s (wAt s b + 1) + 1) (.no d)) : RdT Γ s 137 [.d (iD v),.d (iD c)] a (.no d):=by
 have hi:=is_l Γ s hs (a + 1) (by omega) 123 123 rfl
 rw [hq] at hi
 have hq1:=isB_lt hq
 have hwa : IntKind.i64.wrap ((a : Int) + 1) = ((a + 1 : Nat) : Int):=by rw [wrap_in (by omega) (by omega)];omega
 have hwq : IntKind.i64.wrap ((wAt s (a + 1) : Int) + 1) = ((wAt s (a + 1) + 1 : Nat) : Int):=by rw [wrap_in (by omega) (by omega)];omega
 have hs2:=sign_l Γ s hs b hb 125 125 rfl hb2
 have hb4:=isB_lt hb2
 have hs3:=sign_l Γ s hs (wAt s b + 1) (by omega) 46 46 rfl hb3
 unfold RdT at h1 h2 ⊢
 generalize wAt s (a + 1) = q at *
 generalize wAt s (wAt s b + 1) = e2 at *
 generalize wAt s b = e at *
 obtain ⟨xk,xso,xnm,xls,xl⟩:=x
 simp only [Tp.d] at h1
 unfold rBox at hi h1 hs2 hs3 h2 ⊢
 refine xfn_of_swp (N:=64) Tryd.func137 rfl (by decide) rfl (by simp) (fun C h0=>?_)
 simp only [argS]
 repeat' (first|(with_reducible apply zz1)|((with_reducible apply zz2);rfl;intro K' hK';simp only [WA,simprocAttr,hwa];(repeat (constructor;focus (clear hK';intros;simp_all;done)));(try (apply hK';clear hK' K')))|((with_reducible apply zz3);rfl;all_goals (intro h;try exact absurd h (by decide))))
 refine stop_cS rfl (by simp only [UA,WA,simprocAttr]) (hi) ?_
 simp only [WA,simprocAttr,UM, ]
 (try (apply hK';clear hK' K'))
 repeat' (first|(with_reducible apply zz1)|((with_reducible apply zz2);rfl;intro K' hK';simp only [WA,simprocAttr,hwq];(repeat (constructor;focus (clear hK';intros;simp_all;done)));(try (apply hK';clear hK' K')))|((with_reducible apply zz3);rfl;all_goals (intro h;try exact absurd h (by decide))))
 refine stop_cS rfl (by simp only [UA,WA,simprocAttr]) (h1) ?_
 simp only [WA,simprocAttr,UM, ]
 (try (apply hK';clear hK' K'))
 repeat' (first|(with_reducible apply zz1)|((with_reducible apply zz2);rfl;intro K' hK';simp only [WA,simprocAttr];(repeat (constructor;focus (clear hK';intros;simp_all;done)));(try (apply hK';clear hK' K')))|((with_reducible apply zz3);rfl;all_goals (intro h;try exact absurd h (by decide))))
 refine stop_cS rfl (by simp only [UA,WA,simprocAttr]) (hs2) ?_
 simp only [WA,simprocAttr,UM, ]
 (try (apply hK';clear hK' K'))
 repeat' (first|(with_reducible apply zz1)|((with_reducible apply zz2);rfl;intro K' hK';simp only [WA,simprocAttr];(repeat (constructor;focus (clear hK';intros;simp_all;done)));(try (apply hK';clear hK' K')))|((with_reducible apply zz3);rfl;all_goals (intro h;try exact absurd h (by decide))))
 refine stop_cS rfl (by simp only [UA,WA,simprocAttr]) (hs3) ?_
 simp only [WA,simprocAttr,UM, ]
 (try (apply hK';clear hK' K'))
 refine zw6 ?_
 refine zw0 ?_
 -- TRACE
 (with_reducible refine swp_drawP ?_ ?_ ?_ (⟨⟨[],[]⟩,[],[],[],[]⟩) _ rfl [] 3 0 ([.d (sD s),.d (iD (d : Nat))]) (failV 3 (d : Nat)) [3,4,5,6] rfl rfl ?_ (fun K' hK' gops fin hgops hfin=>?_)
  · kernel_rfl
  · rfl
  · rfl
  · kernel_rfl
  repeat' first
   | (refine vcX_dead rfl trivial (by simp only [WA,simprocAttr,UX,UA];rfl) (by simp only [List.nil_append,List.cons_append];rfl) (by simp only [zn2];rfl) ?_)
   | (refine vcX_step rfl rfl trivial (by simp only [WA,simprocAttr,UX,UA,h2];rfl) ?_ (by simp only [WA,simprocAttr,UX,UA];rfl) (by simp only [WA,simprocAttr,UX,UA];rfl) (by simp only [List.nil_append,List.cons_append];rfl) (by simp only [zn2];rfl) ?_;focus (first | trivial | ((repeat' constructor) <;> first | trivial | assumption | (clear hK' hfin hgops;intros;simp_all;done))))
   | (refine vcX_dead rfl (by (simp only [WA,simprocAttr,UX,UA,h2]) <;> (first | trivial | ((repeat' constructor) <;> first | trivial | assumption | (clear hK' hfin hgops;intros;simp_all;done)))) (by simp only [WA,simprocAttr,UX,UA];rfl) (by simp only [List.nil_append,List.cons_append];rfl) (by simp only [zn2];rfl) ?_)
  (refine vcX_nil (by subst hfin;kernel_rfl) (fun e' s' hbs=>?_))
  clear hfin hgops fin gops
  clear hK' K')
 repeat (first | refine kseq_p ?_ | refine kblk_p ?_ | refine kloop_p ?_)
 simp only [KpanS,US,WA,simprocAttr,h0,lk_put_same]
set_option maxHeartbeats 8000000 in
set_option maxRecDepth 100000 in
theorem passed_ok (Γ : Gl) (s : ByteArray) (hs : s.size ≤ 2000) (v c : Int) (a : Nat) (ha : a < s.size) (hq : isB s (a + 1) 123 = true) (x : Tp) (b : Nat) (hb : b ≤ s.size) (h1 : RdT Γ s 122 [] (wAt s (a + 1) + 1) (.ok x b)) (hb2 : isB s b 125 = true) (hb3 : isB s (wAt s b + 1) 46 = true) (y : Tp) (d : Nat) (h2 : RdT Γ s 122 [] (wAt s (wAt s b + 1) + 1) (.ok y d)) : RdT Γ s 137 [.d (iD v),.d (iD c)] a (.ok (.mk c 0 noB [] [x,y]) d):=by
 have hi:=is_l Γ s hs (a + 1) (by omega) 123 123 rfl
 rw [hq] at hi
 have hq1:=isB_lt hq
 have hwa : IntKind.i64.wrap ((a : Int) + 1) = ((a + 1 : Nat) : Int):=by rw [wrap_in (by omega) (by omega)];omega
 have hwq : IntKind.i64.wrap ((wAt s (a + 1) : Int) + 1) = ((wAt s (a + 1) + 1 : Nat) : Int):=by rw [wrap_in (by omega) (by omega)];omega
 have hs2:=sign_l Γ s hs b hb 125 125 rfl hb2
 have hb4:=isB_lt hb2
 have hs3:=sign_l Γ s hs (wAt s b + 1) (by omega) 46 46 rfl hb3
 unfold RdT at h1 h2 ⊢
 generalize wAt s (a + 1) = q at *
 generalize wAt s (wAt s b + 1) = e2 at *
 generalize wAt s b = e at *
 obtain ⟨xk,xso,xnm,xls,xl⟩:=x
 simp only [Tp.d] at h1
 obtain ⟨yk,yso,ynm,yls,yl⟩:=y
 simp only [Tp.d,Tp.ds,List.map_nil] at h2 ⊢
 unfold rBox at hi h1 hs2 hs3 h2 ⊢
 refine sfn_of_swp (N:=64) Tryd.func137 rfl (by decide) rfl rfl (by simp) (fun C h0=>?_)
 simp only [argS]
 repeat' (first|(with_reducible apply zz1)|((with_reducible apply zz2);rfl;intro K' hK';simp only [WA,simprocAttr,hwa];(repeat (constructor;focus (clear hK';intros;simp_all;done)));(try (apply hK';clear hK' K')))|((with_reducible apply zz3);rfl;all_goals (intro h;try exact absurd h (by decide))))
 refine stop_cS rfl (by simp only [UA,WA,simprocAttr]) (hi) ?_
 simp only [WA,simprocAttr,UM, ]
 (try (apply hK';clear hK' K'))
 repeat' (first|(with_reducible apply zz1)|((with_reducible apply zz2);rfl;intro K' hK';simp only [WA,simprocAttr,hwq];(repeat (constructor;focus (clear hK';intros;simp_all;done)));(try (apply hK';clear hK' K')))|((with_reducible apply zz3);rfl;all_goals (intro h;try exact absurd h (by decide))))
 refine stop_cS rfl (by simp only [UA,WA,simprocAttr]) (h1) ?_
 simp only [WA,simprocAttr,UM, ]
 (try (apply hK';clear hK' K'))
 repeat' (first|(with_reducible apply zz1)|((with_reducible apply zz2);rfl;intro K' hK';simp only [WA,simprocAttr];(repeat (constructor;focus (clear hK';intros;simp_all;done)));(try (apply hK';clear hK' K')))|((with_reducible apply zz3);rfl;all_goals (intro h;try exact absurd h (by decide))))
 refine stop_cS rfl (by simp only [UA,WA,simprocAttr]) (hs2) ?_
 simp only [WA,simprocAttr,UM, ]
 (try (apply hK';clear hK' K'))
 repeat' (first|(with_reducible apply zz1)|((with_reducible apply zz2);rfl;intro K' hK';simp only [WA,simprocAttr];(repeat (constructor;focus (clear hK';intros;simp_all;done)));(try (apply hK';clear hK' K')))|((with_reducible apply zz3);rfl;all_goals (intro h;try exact absurd h (by decide))))
 refine stop_cS rfl (by simp only [UA,WA,simprocAttr]) (hs3) ?_
 simp only [WA,simprocAttr,UM, ]
 (try (apply hK';clear hK' K'))
 refine zw6 ?_
 refine zw0 ?_
 (with_reducible refine swp_drawX ?_ ?_ ?_ (⟨⟨[],[]⟩,[(3,(0,([.d (sD s),.d (iD (d : Nat))],.agg [iD yk,iD yso,sD ynm,.slc (yls.map sD),.slc (Tp.ds yl)])))],[],[],[]⟩) _ rfl (fun K' hK' gops fin hgops hfin=>?_)
  · kernel_rfl
  · rfl
  · rfl
  repeat' first
   | (refine vcX_dead rfl trivial (by simp only [WA,simprocAttr,UX,UA];rfl) (by simp only [List.nil_append,List.cons_append];rfl) (by simp only [zn2];rfl) ?_)
   | (refine vcX_step rfl rfl trivial (by simp only [WA,simprocAttr,UX,UA,h2 ];rfl) ?_ (by simp only [WA,simprocAttr,UX,UA];rfl) (by simp only [WA,simprocAttr,UX,UA];rfl) (by simp only [List.nil_append,List.cons_append];rfl) (by simp only [zn2];rfl) ?_;focus (first | trivial | ((repeat' constructor) <;> first | trivial | assumption | (clear hK' hfin hgops;intros;simp_all;done))))
  (refine vcX_nil (by subst hfin;kernel_rfl) ?_)
  clear hfin hgops fin gops
  (try (apply hK';clear hK' K')))
 repeat' (first|(with_reducible apply zz1)|((with_reducible apply zz2);rfl;intro K' hK';simp only [WA,simprocAttr];(repeat (constructor;focus (clear hK';intros;simp_all;done)));(try (apply hK';clear hK' K')))|((with_reducible apply zz3);rfl;all_goals (intro h;try exact absurd h (by decide))))
 simp only [KretS,retL,retOne,oneV,US,WA,simprocAttr,h0]
set_option maxHeartbeats 8000000 in
set_option maxRecDepth 100000 in
theorem passed_no5 (Γ : Gl) (s : ByteArray) (hs : s.size ≤ 2000) (v c : Int) (a : Nat) (ha : a < s.size) (hG : GD Tryd.prog Γ 1 22 (.slc (sortsL.map sD))) (hq : isB s (a + 1) 123 = false) (hs1 : idxS (wOf s (a + 1)).toList sortsL 0 < 1) : RdT Γ s 137 [.d (iD v),.d (iD c)] a (.no (wAt s (a + 1))):=by
 have hi:=is_l Γ s hs (a + 1) (by omega) 123 123 rfl
 rw [hq] at hi
 obtain ⟨hq0,hq1⟩:=wAt_in s (a + 1) (by omega)
 have hw:=word_fn Γ s hs (wAt s (a + 1)) hq1
 rw [wOf_at,wAt_again] at hw
 have hwz:=wOf_in s (a + 1) (by omega)
 have hx:=indexS_fn Γ sortsL (wOf s (a + 1)) (by decide)
 have hwa : IntKind.i64.wrap ((a : Int) + 1) = ((a + 1 : Nat) : Int):=by rw [wrap_in (by omega) (by omega)];omega
 have hwq : IntKind.i64.wrap ((wAt s (a + 1) : Int) + ((wOf s (a + 1)).size : Int)) = ((wAt s (a + 1) + (wOf s (a + 1)).size : Nat) : Int):=by rw [wrap_in (by omega) (by omega)];omega
 have hf:=fail_fn Γ s (wAt s (a + 1) : Nat)
 unfold RdT
 generalize wAt s (a + 1) = q at *
 generalize idxS (wOf s (a + 1)).toList sortsL 0 = ix at *
 generalize wOf s (a + 1) = w at *
 unfold rBox at hi hw ⊢
 refine xfn_of_swp (N:=64) Tryd.func137 rfl (by decide) rfl (by simp) (fun C h0=>?_)
 simp only [argS]
 repeat' (first|(with_reducible apply zz1)|((with_reducible apply zz2);rfl;intro K' hK';simp only [WA,simprocAttr,hwa];(repeat (constructor;focus (clear hK';intros;simp_all;done)));(try (apply hK';clear hK' K')))|((with_reducible apply zz3);rfl;all_goals (intro h;try exact absurd h (by decide))))
 refine stop_cS rfl (by simp only [UA,WA,simprocAttr]) (hi) ?_
 simp only [WA,simprocAttr,UM, ]
 (try (apply hK';clear hK' K'))
 repeat' (first|(with_reducible apply zz1)|((with_reducible apply zz2);rfl;intro K' hK';simp only [WA,simprocAttr];(repeat (constructor;focus (clear hK';intros;simp_all;done)));(try (apply hK';clear hK' K')))|((with_reducible apply zz3);rfl;all_goals (intro h;try exact absurd h (by decide))))
 refine stop_cS rfl (by simp only [UA,WA,simprocAttr]) (hw) ?_
 simp only [WA,simprocAttr,UM, ]
 (try (apply hK';clear hK' K'))
 repeat' (first|(with_reducible apply zz1)|((with_reducible apply zz2);rfl;intro K' hK';simp only [WA,simprocAttr];(repeat (constructor;focus (clear hK';intros;simp_all;done)));(try (apply hK';clear hK' K')))|((with_reducible apply zz3);rfl;all_goals (intro h;try exact absurd h (by decide))))
 refine stop_glob (.slc (sortsL.map sD)) rfl hG ?_
 simp only [WA,simprocAttr]
 refine stop_callF rfl (by simp only [WA,simprocAttr]) rfl rfl (hx) ?_
 simp only [WA,simprocAttr,inX,dropS, ]
 (repeat (constructor;focus (clear hK';intros;simp_all;done)))
 (try (apply hK';clear hK' K'))
 repeat' (first|(with_reducible first|apply zw0|apply zw1|apply zw2|apply zw3|apply zw4|apply zw5|apply zw6|apply zw7|apply zw8|apply zw9|apply zw10|apply zw11|apply zw13|apply zw14)|((with_reducible refine zw12 ?_ ?_);rfl)|((with_reducible refine swp_regionX ?_ ?_ (fun K' hK' hP'=>?_));rfl;rfl;simp only [WA,simprocAttr,hs1];(repeat (constructor;focus (clear hK' hP';intros;simp_all;done)));(try (apply hK';clear hK' hP';clear K')))|((with_reducible refine zw15 ?_ ?_);rfl;refine ⟨_,rfl,fun h=>?_,fun h=>?_⟩ <;> try exact absurd h (by decide)))
 refine stop_cX rfl (by simp only [UA,WA,simprocAttr]) (hf) ?_
 simp only [UM,WA,simprocAttr]
 refine hP' _ _ _ ?_
 repeat (first | refine kseq_p ?_ | refine kblk_p ?_ | refine kloop_p ?_)
 simp only [KpanS,US,WA,simprocAttr,h0]
set_option maxHeartbeats 8000000 in
set_option maxRecDepth 100000 in
theorem passed_no6 (Γ : Gl) (s : ByteArray) (hs : s.size ≤ 2000) (v c : Int) (a : Nat) (ha : a < s.size) (hG : GD Tryd.prog Γ 1 22 (.slc (sortsL.map sD))) (hq : isB s (a + 1) 123 = false) (hs1 : ¬ idxS (wOf s (a + 1)).toList sortsL 0 < 1) (hb3 : isB s (wAt s (a + 1) + (wOf s (a + 1)).size) 46 = false) : RdT Γ s 137 [.d (iD v),.d (iD c)] a (.no (wAt s (wAt s (a + 1) + (wOf s (a + 1)).size))):=by
 have hi:=is_l Γ s hs (a + 1) (by omega) 123 123 rfl
 rw [hq] at hi
 obtain ⟨hq0,hq1⟩:=wAt_in s (a + 1) (by omega)
 have hw:=word_fn Γ s hs (wAt s (a + 1)) hq1
 rw [wOf_at,wAt_again] at hw
 have hwz:=wOf_in s (a + 1) (by omega)
 have hx:=indexS_fn Γ sortsL (wOf s (a + 1)) (by decide)
 have hwa : IntKind.i64.wrap ((a : Int) + 1) = ((a + 1 : Nat) : Int):=by rw [wrap_in (by omega) (by omega)];omega
 have hwq : IntKind.i64.wrap ((wAt s (a + 1) : Int) + ((wOf s (a + 1)).size : Int)) = ((wAt s (a + 1) + (wOf s (a + 1)).size : Nat) : Int):=by rw [wrap_in (by omega) (by omega)];omega
 have hs3:=sign_x Γ s hs (wAt s (a + 1) + (wOf s (a + 1)).size) hwz 46 46 rfl hb3
 unfold RdT
 generalize wAt s (wAt s (a + 1) + (wOf s (a + 1)).size) = e2 at *
 generalize wAt s (a + 1) = q at *
 generalize idxS (wOf s (a + 1)).toList sortsL 0 = ix at *
 generalize wOf s (a + 1) = w at *
 unfold rBox at hi hw hs3 ⊢
 refine xfn_of_swp (N:=64) Tryd.func137 rfl (by decide) rfl (by simp) (fun C h0=>?_)
 simp only [argS]
 repeat' (first|(with_reducible apply zz1)|((with_reducible apply zz2);rfl;intro K' hK';simp only [WA,simprocAttr,hwa];(repeat (constructor;focus (clear hK';intros;simp_all;done)));(try (apply hK';clear hK' K')))|((with_reducible apply zz3);rfl;all_goals (intro h;try exact absurd h (by decide))))
 refine stop_cS rfl (by simp only [UA,WA,simprocAttr]) (hi) ?_
 simp only [WA,simprocAttr,UM, ]
 (try (apply hK';clear hK' K'))
 repeat' (first|(with_reducible apply zz1)|((with_reducible apply zz2);rfl;intro K' hK';simp only [WA,simprocAttr];(repeat (constructor;focus (clear hK';intros;simp_all;done)));(try (apply hK';clear hK' K')))|((with_reducible apply zz3);rfl;all_goals (intro h;try exact absurd h (by decide))))
 refine stop_cS rfl (by simp only [UA,WA,simprocAttr]) (hw) ?_
 simp only [WA,simprocAttr,UM, ]
 (try (apply hK';clear hK' K'))
 repeat' (first|(with_reducible apply zz1)|((with_reducible apply zz2);rfl;intro K' hK';simp only [WA,simprocAttr];(repeat (constructor;focus (clear hK';intros;simp_all;done)));(try (apply hK';clear hK' K')))|((with_reducible apply zz3);rfl;all_goals (intro h;try exact absurd h (by decide))))
 refine stop_glob (.slc (sortsL.map sD)) rfl hG ?_
 simp only [WA,simprocAttr]
 refine stop_callF rfl (by simp only [WA,simprocAttr]) rfl rfl (hx) ?_
 simp only [WA,simprocAttr,inX,dropS, ]
 (repeat (constructor;focus (clear hK';intros;simp_all;done)))
 (try (apply hK';clear hK' K'))
 repeat' (first|(with_reducible first|apply zw0|apply zw1|apply zw2|apply zw3|apply zw4|apply zw5|apply zw6|apply zw7|apply zw8|apply zw9|apply zw10|apply zw11|apply zw13|apply zw14)|((with_reducible refine zw12 ?_ ?_);rfl)|((with_reducible refine swp_regionX ?_ ?_ (fun K' hK' hP'=>?_));rfl;rfl;simp only [WA,simprocAttr,hs1,hwq];(repeat (constructor;focus (clear hK' hP';intros;simp_all;done)));(try (apply hK';clear hK' hP';clear K')))|((with_reducible refine zw15 ?_ ?_);rfl;refine ⟨_,rfl,fun h=>?_,fun h=>?_⟩ <;> try exact absurd h (by decide)))
 refine stop_cX rfl (by simp only [UA,WA,simprocAttr]) (hs3) ?_
 simp only [UM,WA,simprocAttr]
 refine hP' _ _ _ ?_
 repeat (first | refine kseq_p ?_ | refine kblk_p ?_ | refine kloop_p ?_)
 simp only [KpanS,US,WA,simprocAttr,h0]
set_option maxHeartbeats 8000000 in
set_option maxRecDepth 100000 in
theorem passed_no7 (Γ : Gl) (s : ByteArray) (hs : s.size ≤ 2000) (v c : Int) (a : Nat) (ha : a < s.size) (hG : GD Tryd.prog Γ 1 22 (.slc (sortsL.map sD))) (hq : isB s (a + 1) 123 = false) (hs1 : ¬ idxS (wOf s (a + 1)).toList sortsL 0 < 1) (hb3 : isB s (wAt s (a + 1) + (wOf s (a + 1)).size) 46 = true) (d : Nat) (h1 : RdT Γ s 122 [] (wAt s (wAt s (a + 1) + (wOf s (a + 1)).size) + 1) (.no d)) : RdT Γ s 137 [.d (iD v),.d (iD c)] a (.no d):=by
 have hi:=is_l Γ s hs (a + 1) (by omega) 123 123 rfl
 rw [hq] at hi
 obtain ⟨hq0,hq1⟩:=wAt_in s (a + 1) (by omega)
 have hw:=word_fn Γ s hs (wAt s (a + 1)) hq1
 rw [wOf_at,wAt_again] at hw
 have hwz:=wOf_in s (a + 1) (by omega)
 have hx:=indexS_fn Γ sortsL (wOf s (a + 1)) (by decide)
 have hwa : IntKind.i64.wrap ((a : Int) + 1) = ((a + 1 : Nat) : Int):=by rw [wrap_in (by omega) (by omega)];omega
 have hwq : IntKind.i64.wrap ((wAt s (a + 1) : Int) + ((wOf s (a + 1)).size : Int)) = ((wAt s (a + 1) + (wOf s (a + 1)).size : Nat) : Int):=by rw [wrap_in (by omega) (by omega)];omega
 have hs3:=sign_l Γ s hs (wAt s (a + 1) + (wOf s (a + 1)).size) hwz 46 46 rfl hb3
 unfold RdT at h1 ⊢
 generalize wAt s (wAt s (a + 1) + (wOf s (a + 1)).size) = e2 at *
 generalize wAt s (a + 1) = q at *
 generalize idxS (wOf s (a + 1)).toList sortsL 0 = ix at *
 generalize wOf s (a + 1) = w at *
 unfold rBox at hi hw hs3 h1 ⊢
 refine xfn_of_swp (N:=64) Tryd.func137 rfl (by decide) rfl (by simp) (fun C h0=>?_)
 simp only [argS]
 repeat' (first|(with_reducible apply zz1)|((with_reducible apply zz2);rfl;intro K' hK';simp only [WA,simprocAttr,hwa];(repeat (constructor;focus (clear hK';intros;simp_all;done)));(try (apply hK';clear hK' K')))|((with_reducible apply zz3);rfl;all_goals (intro h;try exact absurd h (by decide))))
 refine stop_cS rfl (by simp only [UA,WA,simprocAttr]) (hi) ?_
 simp only [WA,simprocAttr,UM, ]
 (try (apply hK';clear hK' K'))
 repeat' (first|(with_reducible apply zz1)|((with_reducible apply zz2);rfl;intro K' hK';simp only [WA,simprocAttr];(repeat (constructor;focus (clear hK';intros;simp_all;done)));(try (apply hK';clear hK' K')))|((with_reducible apply zz3);rfl;all_goals (intro h;try exact absurd h (by decide))))
 refine stop_cS rfl (by simp only [UA,WA,simprocAttr]) (hw) ?_
 simp only [WA,simprocAttr,UM, ]
 (try (apply hK';clear hK' K'))
 repeat' (first|(with_reducible apply zz1)|((with_reducible apply zz2);rfl;intro K' hK';simp only [WA,simprocAttr];(repeat (constructor;focus (clear hK';intros;simp_all;done)));(try (apply hK';clear hK' K')))|((with_reducible apply zz3);rfl;all_goals (intro h;try exact absurd h (by decide))))
 refine stop_glob (.slc (sortsL.map sD)) rfl hG ?_
 simp only [WA,simprocAttr]
 refine stop_callF rfl (by simp only [WA,simprocAttr]) rfl rfl (hx) ?_
 simp only [WA,simprocAttr,inX,dropS, ]
 (repeat (constructor;focus (clear hK';intros;simp_all;done)))
 (try (apply hK';clear hK' K'))
 repeat' (first|(with_reducible apply zz1)|((with_reducible apply zz2);rfl;intro K' hK';simp only [WA,simprocAttr,hs1,hwq];(repeat (constructor;focus (clear hK';intros;simp_all;done)));(try (apply hK';clear hK' K')))|((with_reducible apply zz3);rfl;all_goals (intro h;try exact absurd h (by decide))))
 refine stop_cS rfl (by simp only [UA,WA,simprocAttr]) (hs3) ?_
 simp only [WA,simprocAttr,UM, ]
 (try (apply hK';clear hK' K'))
 repeat' (first|(with_reducible first|apply zw0|apply zw1|apply zw2|apply zw3|apply zw4|apply zw5|apply zw6|apply zw7|apply zw8|apply zw9|apply zw10|apply zw11|apply zw13|apply zw14)|((with_reducible refine zw12 ?_ ?_);rfl)|((with_reducible refine swp_regionX ?_ ?_ (fun K' hK' hP'=>?_));rfl;rfl;simp only [WA,simprocAttr];(repeat (constructor;focus (clear hK' hP';intros;simp_all;done)));(try (apply hK';clear hK' hP';clear K')))|((with_reducible refine zw15 ?_ ?_);rfl;refine ⟨_,rfl,fun h=>?_,fun h=>?_⟩ <;> try exact absurd h (by decide)))
 refine stop_cX rfl (by simp only [UA,WA,simprocAttr]) (h1) ?_
 simp only [UM,WA,simprocAttr]
 refine hP' _ _ _ ?_
 repeat (first | refine kseq_p ?_ | refine kblk_p ?_ | refine kloop_p ?_)
 simp only [KpanS,US,WA,simprocAttr,h0]
set_option maxHeartbeats 8000000 in
set_option maxRecDepth 100000 in
theorem passed_ok8 (Γ : Gl) (s : ByteArray) (hs : s.size ≤ 2000) (v c : Int) (a : Nat) (ha : a < s.size) (hG : GD Tryd.prog Γ 1 22 (.slc (sortsL.map sD))) (hq : isB s (a + 1) 123 = false) (hs1 : ¬ idxS (wOf s (a + 1)).toList sortsL 0 < 1) (hb3 : isB s (wAt s (a + 1) + (wOf s (a + 1)).size) 46 = true) (y : Tp) (d : Nat) (h1 : RdT Γ s 122 [] (wAt s (wAt s (a + 1) + (wOf s (a + 1)).size) + 1) (.ok y d)) : RdT Γ s 137 [.d (iD v),.d (iD c)] a (.ok (.mk v (idxS (wOf s (a + 1)).toList sortsL 0) noB [] [y]) d):=by
 have hi:=is_l Γ s hs (a + 1) (by omega) 123 123 rfl
 rw [hq] at hi
 obtain ⟨hq0,hq1⟩:=wAt_in s (a + 1) (by omega)
 have hw:=word_fn Γ s hs (wAt s (a + 1)) hq1
 rw [wOf_at,wAt_again] at hw
 have hwz:=wOf_in s (a + 1) (by omega)
 have hx:=indexS_fn Γ sortsL (wOf s (a + 1)) (by decide)
 have hwa : IntKind.i64.wrap ((a : Int) + 1) = ((a + 1 : Nat) : Int):=by rw [wrap_in (by omega) (by omega)];omega
 have hwq : IntKind.i64.wrap ((wAt s (a + 1) : Int) + ((wOf s (a + 1)).size : Int)) = ((wAt s (a + 1) + (wOf s (a + 1)).size : Nat) : Int):=by rw [wrap_in (by omega) (by omega)];omega
 have hs3:=sign_l Γ s hs (wAt s (a + 1) + (wOf s (a + 1)).size) hwz 46 46 rfl hb3
 unfold RdT at h1 ⊢
 generalize wAt s (wAt s (a + 1) + (wOf s (a + 1)).size) = e2 at *
 generalize wAt s (a + 1) = q at *
 generalize idxS (wOf s (a + 1)).toList sortsL 0 = ix at *
 generalize wOf s (a + 1) = w at *
 obtain ⟨yk,yso,ynm,yls,yl⟩:=y
 simp only [Tp.d,Tp.ds,List.map_nil] at h1 ⊢
 unfold rBox at hi hw hs3 h1 ⊢
 refine sfn_of_swp (N:=64) Tryd.func137 rfl (by decide) rfl rfl (by simp) (fun C h0=>?_)
 simp only [argS]
 repeat' (first|(with_reducible apply zz1)|((with_reducible apply zz2);rfl;intro K' hK';simp only [WA,simprocAttr,hwa];(repeat (constructor;focus (clear hK';intros;simp_all;done)));(try (apply hK';clear hK' K')))|((with_reducible apply zz3);rfl;all_goals (intro h;try exact absurd h (by decide))))
 refine stop_cS rfl (by simp only [UA,WA,simprocAttr]) (hi) ?_
 simp only [WA,simprocAttr,UM, ]
 (try (apply hK';clear hK' K'))
 repeat' (first|(with_reducible apply zz1)|((with_reducible apply zz2);rfl;intro K' hK';simp only [WA,simprocAttr];(repeat (constructor;focus (clear hK';intros;simp_all;done)));(try (apply hK';clear hK' K')))|((with_reducible apply zz3);rfl;all_goals (intro h;try exact absurd h (by decide))))
 refine stop_cS rfl (by simp only [UA,WA,simprocAttr]) (hw) ?_
 simp only [WA,simprocAttr,UM, ]
 (try (apply hK';clear hK' K'))
 repeat' (first|(with_reducible apply zz1)|((with_reducible apply zz2);rfl;intro K' hK';simp only [WA,simprocAttr];(repeat (constructor;focus (clear hK';intros;simp_all;done)));(try (apply hK';clear hK' K')))|((with_reducible apply zz3);rfl;all_goals (intro h;try exact absurd h (by decide))))
 refine stop_glob (.slc (sortsL.map sD)) rfl hG ?_
 simp only [WA,simprocAttr]
 refine stop_callF rfl (by simp only [WA,simprocAttr]) rfl rfl (hx) ?_
 simp only [WA,simprocAttr,inX,dropS, ]
 (repeat (constructor;focus (clear hK';intros;simp_all;done)))
 (try (apply hK';clear hK' K'))
 repeat' (first|(with_reducible apply zz1)|((with_reducible apply zz2);rfl;intro K' hK';simp only [WA,simprocAttr,hs1,hwq];(repeat (constructor;focus (clear hK';intros;simp_all;done)));(try (apply hK';clear hK' K')))|((with_reducible apply zz3);rfl;all_goals (intro h;try exact absurd h (by decide))))
 refine stop_cS rfl (by simp only [UA,WA,simprocAttr]) (hs3) ?_
 simp only [WA,simprocAttr,UM, ]
 (try (apply hK';clear hK' K'))
 repeat' (first|(with_reducible apply zz1)|((with_reducible apply zz2);rfl;intro K' hK';simp only [WA,simprocAttr];(repeat (constructor;focus (clear hK';intros;simp_all;done)));(try (apply hK';clear hK' K')))|((with_reducible apply zz3);rfl;all_goals (intro h;try exact absurd h (by decide))))
 refine stop_cS rfl (by simp only [UA,WA,simprocAttr]) (h1) ?_
 simp only [WA,simprocAttr,UM, ]
 (try (apply hK';clear hK' K'))
 repeat' (first|(with_reducible apply zz1)|((with_reducible apply zz2);rfl;intro K' hK';simp only [WA,simprocAttr];(repeat (constructor;focus (clear hK';intros;simp_all;done)));(try (apply hK';clear hK' K')))|((with_reducible apply zz3);rfl;all_goals (intro h;try exact absurd h (by decide))))
 simp only [KretS,retL,retOne,oneV,US,WA,simprocAttr,h0]
end Go.Proofs.YtdcplkefmpjppaaDoor.GG
