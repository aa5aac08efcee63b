/- types.Begin; a symbolic walk. -/
-- TYPESA
import Derived.Test.YtdcplkefmpjppaaDoorDT12
set_option linter.unusedVariables false
set_option linter.unusedSimpArgs false
namespace Go.Proofs.YtdcplkefmpjppaaDoor.GG
open Go.RowKit Go.Sw

def Tp.zero : Tp:=.mk 0 0 noB [] []
def begR (s : ByteArray) : Rt → D
 | .ok x b=>if tCheck x = 0 then .tup [x.d,iD (wAt s b : Nat),.agg [iD 0,iD 0]] else .tup [Tp.zero.d,iD 0,.agg [iD (tCheck x),iD 0]]
 | .no b=>.tup [Tp.zero.d,iD 0,.agg [iD 3,iD (b : Nat)]]
theorem lk_three {e : Env} {a b c : SV} (h4 : lk 4 e = some a) (h5 : lk 5 e = some b) (h6 : lk 6 e = some c) : ∀ t x,lk t [(4,a),(5,b),(6,c)] = some x → lk t e = some x:=by
 intro t x h
 by_cases e4 : t = 4
 · subst e4;rw [h4];exact h
 by_cases e5 : t = 5
 · subst e5;rw [h5];exact h
 by_cases e6 : t = 6
 · subst e6;rw [h6];exact h
 · exfalso
   have hb : ∀ n : Nat,t ≠ n → Nat.beq t n = false:=fun n hn=>Bool.eq_false_iff.2 (fun q=>hn (Nat.eq_of_beq_eq_true q))
   simp only [lk,hb 4 e4,hb 5 e5,hb 6 e6,cond_false] at h
   cases h
theorem run_min2 {x y : Operand} {ev : Operand → Value} {i j m : Int} {dst : Option Tmp} {ats : Array TypeId} {ty : TypeId} {pos : String} {af : Array Edge} {w : World} (h1 : ev x = (iD i).val) (h2 : ev y = (iD j).val) (hm : (if j < i then j else i) = m) :
 (execOp ev ⟨dst,.call ⟨.builtin .min, #[x,y],ats⟩,ty,pos,af,none⟩).run Tryd.prog w = .ok (.value (iD m).val) w:=by
 subst hm
 have h1 : ev x = .int .i64 i:=h1
 have h2 : ev y = .int .i64 j:=h2
 simp [execOp,h1,h2,go_sem,D.val]
 rw [Int.min_def]
 split <;> split <;> omega
theorem run_max2 {x y : Operand} {ev : Operand → Value} {i j m : Int} {dst : Option Tmp} {ats : Array TypeId} {ty : TypeId} {pos : String} {af : Array Edge} {w : World} (h1 : ev x = (iD i).val) (h2 : ev y = (iD j).val) (hm : (if i < j then j else i) = m) :
 (execOp ev ⟨dst,.call ⟨.builtin .max, #[x,y],ats⟩,ty,pos,af,none⟩).run Tryd.prog w = .ok (.value (iD m).val) w:=by
 subst hm
 have h1 : ev x = .int .i64 i:=h1
 have h2 : ev y = .int .i64 j:=h2
 simp [execOp,h1,h2,go_sem,D.val]
 rw [Int.max_def]
 split <;> split <;> omega
theorem blk_rd (Γ : Gl) (s : ByteArray) (hs : s.size ≤ 2000) (a : Nat) (ha : a ≤ s.size) : SFn Tryd.prog Γ 123 [.ref 0 0] (rBox s a) (.tup []) (rBox s (wAt s a)):=blanks_fn Γ s hs a ha

set_option maxHeartbeats 8000000 in
set_option maxRecDepth 100000 in
theorem begin_no (Γ : Gl) (s : ByteArray) (hs : s.size ≤ 2000) (p m : Int) (a : Nat) (hm : (if (s.size : Int) < p then (s.size : Int) else p) = m) (hx : (if (0 : Int) < m then m else 0) = (a : Int)) (ha : a ≤ s.size) (b : Nat) (hr : RdT Γ s 122 [] a (.no b)) :
 DFn Tryd.prog Γ 100 [sD s,iD p] (begR s (.no b)):=by
 have hs1 : ¬ (2000 : Int) < (s.size : Int):=by omega
 unfold begR
 simp only [RdT,rBox] at hr
 have hr3 : XFn Tryd.prog Γ 122 [.ref 3 0] [(3,.cells [.d (sD s),.d (iD (a : Nat))])] (failV 3 (b : Nat)) [(3,.cells [.d (sD s),.d (iD (b : Nat))])]:=hr.up 3
 refine fn_of_defers3 (N:=40) Tryd.func100 rfl (by decide) rfl rfl (by simp) [(0,.d (sD s)),(1,.d (iD p)),(4,.ref 0 0),(5,.ref 1 0),(6,.ref 2 0)] [(0,.cells zeroB),(1,.cells [.d (iD 0)]),(2,.cells [.d (iD 0),.d (iD 0)])]
  [(0,.d (sD s)),(1,.d (iD p)),(4,.ref 0 0),(5,.ref 1 0),(6,.ref 2 0)] [(0,.cells zeroB),(1,.cells [.d (iD 0)]),(2,.cells [.d (iD 0),.d (iD 0)])]
  [(0,.d (sD s)),(4,.ref 0 0),(5,.ref 1 0),(6,.ref 2 0),(7,.ref 3 0)] (bBox zeroB 0 0 0 s a) bRefs (failV 3 (b : Nat)) [(4,.ref 0 0),(5,.ref 1 0),(6,.ref 2 0)] (by kernel_rfl) rfl (by decide) rfl rfl ⟨⟨_,rfl⟩,⟨_,rfl⟩,⟨_,rfl⟩,trivial⟩ (fun C h0=>?_) (fun C h0=>?_) (fun C h0=>?_) (fun C h0=>?_)
 · simp only [argE]
   repeat' (first|(with_reducible apply zz1)|((with_reducible apply zz2);rfl;intro K' hK';simp only [WA,simprocAttr];(repeat (constructor;focus (clear hK';intros;simp_all;done)));(try (apply hK';clear hK' K')))|((with_reducible apply zz3);rfl;all_goals (intro h;try exact absurd h (by decide))))
   refine ⟨rfl,?_⟩
   refine sub_of h0 ?_ ?_ ?_ <;> simp only [US,WA,simprocAttr,h0]
 · repeat' (first|(with_reducible apply zz1)|((with_reducible apply zz2);rfl;intro K' hK';simp only [WA,simprocAttr,hs1];(repeat (constructor;focus (clear hK';intros;simp_all;done)));(try (apply hK';clear hK' K')))|((with_reducible apply zz3);rfl;all_goals (intro h;try exact absurd h (by decide))))
   refine ⟨rfl,?_⟩
   refine sub_of h0 ?_ ?_ ?_ <;> simp only [US,WA,simprocAttr,h0]
 · repeat' (first|(with_reducible apply zz1)|((with_reducible apply zz2);rfl;intro K' hK';simp only [WA,simprocAttr];(repeat (constructor;focus (clear hK';intros;simp_all;done)));(try (apply hK';clear hK' K')))|((with_reducible apply zz3);rfl;all_goals (intro h;try exact absurd h (by decide))))
   refine stop_val (iD m) rfl rfl (fun a w hv=>run_min2 (hv (.tmp 15) (iD p) rfl rfl rfl) (hv (.tmp 17) (iD (s.size : Int)) rfl rfl rfl) hm) ?_
   simp only [WA,simprocAttr]
   refine stop_val (iD a) rfl rfl (fun a w hv=>run_max2 (hv (.const (.int .i64 0)) (iD 0) rfl rfl rfl) (hv (.tmp 18) (iD m) rfl rfl rfl) hx) ?_
   simp only [WA,simprocAttr]
   refine hK' _ _ ?_
   clear hK' K'
   refine ⟨rfl,?_⟩
   refine sub_of h0 ?_ ?_ ?_ <;> simp only [US,WA,simprocAttr,h0]
 · repeat' (first|(with_reducible first|refine swp_seq ?_|refine swp_block ?_|refine swp_skip ?_|refine swp_ret ?_|refine swp_exit ?_|refine swp_label ?_|refine kseq_n ?_|refine kseq_x ?_|refine kseq_r ?_|refine kblk_n ?_|refine kblk_r ?_|refine kblk_xs ?_|refine kloop_x ?_|refine kloop_r ?_)|((with_reducible refine kblk_xn ?_ ?_);rfl)|((with_reducible refine swp_regionX ?_ ?_ (fun K' hK' hP'=>?_));rfl;rfl;simp only [WA,simprocAttr];(repeat (constructor;focus (clear hK' hP';intros;simp_all;done)));(try (apply hK';clear hK' hP';clear K')))|((with_reducible refine swp_cond ?_ ?_);rfl;refine ⟨_,rfl,fun h=>?_,fun h=>?_⟩ <;> try exact absurd h (by decide)))
   refine stop_cX rfl (by simp only [UA,WA,simprocAttr]) (hr3) ?_
   simp only [UM,WA,simprocAttr]
   refine hP' _ _ _ ?_
   repeat (first | refine kseq_p ?_ | refine kblk_p ?_ | refine kloop_p ?_)
   refine ⟨rfl,?_⟩
   refine ⟨⟨⟨_,rfl⟩,⟨_,rfl⟩,⟨_,rfl⟩,trivial⟩,lk_three rfl rfl rfl,_,(clo_catch Γ _ _ _ _ _ _ _),⟨⟨_,rfl⟩,⟨_,rfl⟩,⟨_,rfl⟩,trivial⟩,?_⟩
   simp only [retL,retOne,oneV,WA,simprocAttr]
   rfl
set_option maxHeartbeats 8000000 in
set_option maxRecDepth 100000 in
theorem begin_ok (Γ : Gl) (s : ByteArray) (hs : s.size ≤ 2000) (p m : Int) (a : Nat) (hm : (if (s.size : Int) < p then (s.size : Int) else p) = m) (hx : (if (0 : Int) < m then m else 0) = (a : Int)) (ha : a ≤ s.size) (x : Tp) (b : Nat) (hb : b ≤ s.size) (hr : RdT Γ s 122 [] a (.ok x b)) (hc : tCheck x = 0) :
 DFn Tryd.prog Γ 100 [sD s,iD p] (.tup [x.d,iD (wAt s b : Nat),.agg [iD 0,iD 0]]):=by
 have hs1 : ¬ (2000 : Int) < (s.size : Int):=by omega
 have hck:=TCheck_fn Γ x
 have hbl:=blk_rd Γ s hs b hb
 rw [hc] at hck
 obtain ⟨xk,xso,xnm,xls,xl⟩:=x
 simp only [RdT,Tp.d,rBox] at hr hck hbl ⊢
 have hr3 : SFn Tryd.prog Γ 122 [.ref 3 0] [(3,.cells [.d (sD s),.d (iD (a : Nat))])] (.d (.agg [iD xk,iD xso,sD xnm,.slc (xls.map sD),.slc (Tp.ds xl)])) [(3,.cells [.d (sD s),.d (iD (b : Nat))])]:=hr.up 3
 have hb3 : SFn Tryd.prog Γ 123 [.ref 3 0] [(3,.cells [.d (sD s),.d (iD (b : Nat))])] (.tup []) [(3,.cells [.d (sD s),.d (iD (wAt s b : Nat))])]:=hbl.up 3
 refine fn_of_defers3 (N:=40) Tryd.func100 rfl (by decide) rfl rfl (by simp) [(0,.d (sD s)),(1,.d (iD p)),(4,.ref 0 0),(5,.ref 1 0),(6,.ref 2 0)] [(0,.cells zeroB),(1,.cells [.d (iD 0)]),(2,.cells [.d (iD 0),.d (iD 0)])]
  [(0,.d (sD s)),(1,.d (iD p)),(4,.ref 0 0),(5,.ref 1 0),(6,.ref 2 0)] [(0,.cells zeroB),(1,.cells [.d (iD 0)]),(2,.cells [.d (iD 0),.d (iD 0)])]
  [(0,.d (sD s)),(4,.ref 0 0),(5,.ref 1 0),(6,.ref 2 0),(7,.ref 3 0)] (bBox zeroB 0 0 0 s a) bRefs (failV 0 0) [(4,.ref 0 0),(5,.ref 1 0),(6,.ref 2 0)] (by kernel_rfl) rfl (by decide) rfl rfl ⟨⟨_,rfl⟩,⟨_,rfl⟩,⟨_,rfl⟩,trivial⟩ (fun C h0=>?_) (fun C h0=>?_) (fun C h0=>?_) (fun C h0=>?_)
 · simp only [argE]
   repeat' (first|(with_reducible apply zz1)|((with_reducible apply zz2);rfl;intro K' hK';simp only [WA,simprocAttr];(repeat (constructor;focus (clear hK';intros;simp_all;done)));(try (apply hK';clear hK' K')))|((with_reducible apply zz3);rfl;all_goals (intro h;try exact absurd h (by decide))))
   refine ⟨rfl,?_⟩
   refine sub_of h0 ?_ ?_ ?_ <;> simp only [US,WA,simprocAttr,h0]
 · repeat' (first|(with_reducible apply zz1)|((with_reducible apply zz2);rfl;intro K' hK';simp only [WA,simprocAttr,hs1];(repeat (constructor;focus (clear hK';intros;simp_all;done)));(try (apply hK';clear hK' K')))|((with_reducible apply zz3);rfl;all_goals (intro h;try exact absurd h (by decide))))
   refine ⟨rfl,?_⟩
   refine sub_of h0 ?_ ?_ ?_ <;> simp only [US,WA,simprocAttr,h0]
 · repeat' (first|(with_reducible apply zz1)|((with_reducible apply zz2);rfl;intro K' hK';simp only [WA,simprocAttr];(repeat (constructor;focus (clear hK';intros;simp_all;done)));(try (apply hK';clear hK' K')))|((with_reducible apply zz3);rfl;all_goals (intro h;try exact absurd h (by decide))))
   refine stop_val (iD m) rfl rfl (fun a w hv=>run_min2 (hv (.tmp 15) (iD p) rfl rfl rfl) (hv (.tmp 17) (iD (s.size : Int)) rfl rfl rfl) hm) ?_
   simp only [WA,simprocAttr]
   refine stop_val (iD a) rfl rfl (fun a w hv=>run_max2 (hv (.const (.int .i64 0)) (iD 0) rfl rfl rfl) (hv (.tmp 18) (iD m) rfl rfl rfl) hx) ?_
   simp only [WA,simprocAttr]
   refine hK' _ _ ?_
   clear hK' K'
   refine ⟨rfl,?_⟩
   refine sub_of h0 ?_ ?_ ?_ <;> simp only [US,WA,simprocAttr,h0]
 · repeat' (first|(with_reducible apply zz1)|((with_reducible apply zz2);rfl;intro K' hK';simp only [WA,simprocAttr];(repeat (constructor;focus (clear hK';intros;simp_all;done)));(try (apply hK';clear hK' K')))|((with_reducible apply zz3);rfl;all_goals (intro h;try exact absurd h (by decide))))
   refine stop_cS rfl (by simp only [UA,WA,simprocAttr]) (hr3) ?_
   simp only [WA,simprocAttr,UM, ]
   (try (apply hK';clear hK' K'))
   repeat' (first|(with_reducible apply zz1)|((with_reducible apply zz2);rfl;intro K' hK';simp only [WA,simprocAttr];(repeat (constructor;focus (clear hK';intros;simp_all;done)));(try (apply hK';clear hK' K')))|((with_reducible apply zz3);rfl;all_goals (intro h;try exact absurd h (by decide))))
   refine stop_cS rfl (by simp only [UA,WA,simprocAttr]) (hb3) ?_
   simp only [WA,simprocAttr,UM, ]
   (try (apply hK';clear hK' K'))
   repeat' (first|(with_reducible apply zz1)|((with_reducible apply zz2);rfl;intro K' hK';simp only [WA,simprocAttr];(repeat (constructor;focus (clear hK';intros;simp_all;done)));(try (apply hK';clear hK' K')))|((with_reducible apply zz3);rfl;all_goals (intro h;try exact absurd h (by decide))))
   refine stop_callF rfl (by simp only [WA,simprocAttr]) rfl rfl (hck) ?_
   simp only [WA,simprocAttr,inX,dropS, ]
   (repeat (constructor;focus (clear hK';intros;simp_all;done)))
   (try (apply hK';clear hK' K'))
   repeat' (first|(with_reducible apply zz1)|((with_reducible apply zz2);rfl;intro K' hK';simp only [WA,simprocAttr];(repeat (constructor;focus (clear hK';intros;simp_all;done)));(try (apply hK';clear hK' K')))|((with_reducible apply zz3);rfl;all_goals (intro h;try exact absurd h (by decide))))
   -- TRACE
   (with_reducible refine swp_drawW ?_ ?_ ?_ (⟨[],[]⟩) _ rfl (fun K' hK'=>?_)
    · kernel_rfl
    · rfl
    · rfl
    simp only [WA,simprocAttr,vcW,stepW,callR,effO,srcE,Eff.env,Eff.st,writeOp,callA,pureOp,Bool.or_true,Bool.true_or,Bool.or_self,Bool.or_false,Bool.false_or,D.flat,D.flats,true_or,or_true,forall_const, ]
    (repeat (constructor;focus (first | (with_reducible assumption) | (clear hK';intros;simp_all;done))))
    (refine And.intro (by kernel_rfl) ?_)
    (try (apply hK';clear hK' K')))
   repeat' (first|(with_reducible apply zz1)|((with_reducible apply zz2);rfl;intro K' hK';simp only [WA,simprocAttr];(repeat (constructor;focus (clear hK';intros;simp_all;done)));(try (apply hK';clear hK' K')))|((with_reducible apply zz3);rfl;all_goals (intro h;try exact absurd h (by decide))))
   refine ⟨⟨⟨_,rfl⟩,⟨_,rfl⟩,⟨_,rfl⟩,trivial⟩,lk_three rfl rfl rfl,_,(clo_idle Γ _ _ _ _ _ _ _ _ _ _),⟨⟨_,rfl⟩,⟨_,rfl⟩,⟨_,rfl⟩,trivial⟩,?_⟩
   simp only [retL,retOne,oneV,WA,simprocAttr]
set_option maxHeartbeats 8000000 in
set_option maxRecDepth 100000 in
theorem begin_bad (Γ : Gl) (s : ByteArray) (hs : s.size ≤ 2000) (p m : Int) (a : Nat) (hm : (if (s.size : Int) < p then (s.size : Int) else p) = m) (hx : (if (0 : Int) < m then m else 0) = (a : Int)) (ha : a ≤ s.size) (x : Tp) (b : Nat) (hb : b ≤ s.size) (hr : RdT Γ s 122 [] a (.ok x b)) (hc : tCheck x ≠ 0) :
 DFn Tryd.prog Γ 100 [sD s,iD p] (.tup [Tp.zero.d,iD 0,.agg [iD (tCheck x),iD 0]]):=by
 have hs1 : ¬ (2000 : Int) < (s.size : Int):=by omega
 have hck:=TCheck_fn Γ x
 have hbl:=blk_rd Γ s hs b hb
 have g0 : (tCheck x != 0) = true:=by simpa using hc
 generalize tCheck x = E at *
 obtain ⟨xk,xso,xnm,xls,xl⟩:=x
 simp only [RdT,Tp.d,rBox] at hr hck hbl ⊢
 have hr3 : SFn Tryd.prog Γ 122 [.ref 3 0] [(3,.cells [.d (sD s),.d (iD (a : Nat))])] (.d (.agg [iD xk,iD xso,sD xnm,.slc (xls.map sD),.slc (Tp.ds xl)])) [(3,.cells [.d (sD s),.d (iD (b : Nat))])]:=hr.up 3
 have hb3 : SFn Tryd.prog Γ 123 [.ref 3 0] [(3,.cells [.d (sD s),.d (iD (b : Nat))])] (.tup []) [(3,.cells [.d (sD s),.d (iD (wAt s b : Nat))])]:=hbl.up 3
 refine fn_of_defers3 (N:=40) Tryd.func100 rfl (by decide) rfl rfl (by simp) [(0,.d (sD s)),(1,.d (iD p)),(4,.ref 0 0),(5,.ref 1 0),(6,.ref 2 0)] [(0,.cells zeroB),(1,.cells [.d (iD 0)]),(2,.cells [.d (iD 0),.d (iD 0)])]
  [(0,.d (sD s)),(1,.d (iD p)),(4,.ref 0 0),(5,.ref 1 0),(6,.ref 2 0)] [(0,.cells zeroB),(1,.cells [.d (iD 0)]),(2,.cells [.d (iD 0),.d (iD 0)])]
  [(0,.d (sD s)),(4,.ref 0 0),(5,.ref 1 0),(6,.ref 2 0),(7,.ref 3 0)] (bBox zeroB 0 0 0 s a) bRefs (failV 0 0) [(4,.ref 0 0),(5,.ref 1 0),(6,.ref 2 0)] (by kernel_rfl) rfl (by decide) rfl rfl ⟨⟨_,rfl⟩,⟨_,rfl⟩,⟨_,rfl⟩,trivial⟩ (fun C h0=>?_) (fun C h0=>?_) (fun C h0=>?_) (fun C h0=>?_)
 · simp only [argE]
   repeat' (first|(with_reducible apply zz1)|((with_reducible apply zz2);rfl;intro K' hK';simp only [WA,simprocAttr];(repeat (constructor;focus (clear hK';intros;simp_all;done)));(try (apply hK';clear hK' K')))|((with_reducible apply zz3);rfl;all_goals (intro h;try exact absurd h (by decide))))
   refine ⟨rfl,?_⟩
   refine sub_of h0 ?_ ?_ ?_ <;> simp only [US,WA,simprocAttr,h0]
 · repeat' (first|(with_reducible apply zz1)|((with_reducible apply zz2);rfl;intro K' hK';simp only [WA,simprocAttr,hs1];(repeat (constructor;focus (clear hK';intros;simp_all;done)));(try (apply hK';clear hK' K')))|((with_reducible apply zz3);rfl;all_goals (intro h;try exact absurd h (by decide))))
   refine ⟨rfl,?_⟩
   refine sub_of h0 ?_ ?_ ?_ <;> simp only [US,WA,simprocAttr,h0]
 · repeat' (first|(with_reducible apply zz1)|((with_reducible apply zz2);rfl;intro K' hK';simp only [WA,simprocAttr];(repeat (constructor;focus (clear hK';intros;simp_all;done)));(try (apply hK';clear hK' K')))|((with_reducible apply zz3);rfl;all_goals (intro h;try exact absurd h (by decide))))
   refine stop_val (iD m) rfl rfl (fun a w hv=>run_min2 (hv (.tmp 15) (iD p) rfl rfl rfl) (hv (.tmp 17) (iD (s.size : Int)) rfl rfl rfl) hm) ?_
   simp only [WA,simprocAttr]
   refine stop_val (iD a) rfl rfl (fun a w hv=>run_max2 (hv (.const (.int .i64 0)) (iD 0) rfl rfl rfl) (hv (.tmp 18) (iD m) rfl rfl rfl) hx) ?_
   simp only [WA,simprocAttr]
   refine hK' _ _ ?_
   clear hK' K'
   refine ⟨rfl,?_⟩
   refine sub_of h0 ?_ ?_ ?_ <;> simp only [US,WA,simprocAttr,h0]
 · repeat' (first|(with_reducible apply zz1)|((with_reducible apply zz2);rfl;intro K' hK';simp only [WA,simprocAttr];(repeat (constructor;focus (clear hK';intros;simp_all;done)));(try (apply hK';clear hK' K')))|((with_reducible apply zz3);rfl;all_goals (intro h;try exact absurd h (by decide))))
   refine stop_cS rfl (by simp only [UA,WA,simprocAttr]) (hr3) ?_
   simp only [WA,simprocAttr,UM, ]
   (try (apply hK';clear hK' K'))
   repeat' (first|(with_reducible apply zz1)|((with_reducible apply zz2);rfl;intro K' hK';simp only [WA,simprocAttr];(repeat (constructor;focus (clear hK';intros;simp_all;done)));(try (apply hK';clear hK' K')))|((with_reducible apply zz3);rfl;all_goals (intro h;try exact absurd h (by decide))))
   refine stop_cS rfl (by simp only [UA,WA,simprocAttr]) (hb3) ?_
   simp only [WA,simprocAttr,UM, ]
   (try (apply hK';clear hK' K'))
   repeat' (first|(with_reducible apply zz1)|((with_reducible apply zz2);rfl;intro K' hK';simp only [WA,simprocAttr];(repeat (constructor;focus (clear hK';intros;simp_all;done)));(try (apply hK';clear hK' K')))|((with_reducible apply zz3);rfl;all_goals (intro h;try exact absurd h (by decide))))
   refine stop_callF rfl (by simp only [WA,simprocAttr]) rfl rfl (hck) ?_
   simp only [WA,simprocAttr,inX,dropS,g0]
   (repeat (constructor;focus (clear hK';intros;simp_all;done)))
   (try (apply hK';clear hK' K'))
   repeat' (first|(with_reducible apply zz1)|((with_reducible apply zz2);rfl;intro K' hK';simp only [WA,simprocAttr,g0];(repeat (constructor;focus (clear hK';intros;simp_all;done)));(try (apply hK';clear hK' K')))|((with_reducible apply zz3);rfl;all_goals (intro h;try exact absurd h (by decide))))
   -- TRACE
   refine ⟨⟨⟨_,rfl⟩,⟨_,rfl⟩,⟨_,rfl⟩,trivial⟩,lk_three rfl rfl rfl,_,(clo_idle0 Γ _ _ _ _ _),⟨⟨_,rfl⟩,⟨_,rfl⟩,⟨_,rfl⟩,trivial⟩,?_⟩
   simp only [retL,retOne,oneV,WA,simprocAttr]
   rfl
set_option maxHeartbeats 8000000 in
set_option maxRecDepth 100000 in
theorem begin_big (Γ : Gl) (s : ByteArray) (hs : ¬ s.size ≤ 2000) (p : Int) : DFn Tryd.prog Γ 100 [sD s,iD p] (.tup [Tp.zero.d,iD 0,.agg [iD 2,iD 0]]):=by
 have hs1 : (2000 : Int) < (s.size : Int):=by omega
 refine fn_of_swp (N:=40) Tryd.func100 rfl (by decide) rfl rfl (by simp) (fun C h0=>?_)
 simp only [argE]
 repeat' (first|(with_reducible apply zz1)|((with_reducible apply zz2);rfl;intro K' hK';simp only [WA,simprocAttr,hs1];(repeat (constructor;focus (clear hK';intros;simp_all;done)));(try (apply hK';clear hK' K')))|((with_reducible apply zz3);rfl;all_goals (intro h;try exact absurd h (by decide))))
 simp only [Kret,retL,retOne,oneV,WA,simprocAttr,Tp.zero,Tp.d,Tp.ds,List.map_nil]
theorem begin_fn (Γ : Gl) (s : ByteArray) (hs : s.size ≤ 2000) (p m : Int) (a : Nat) (hm : (if (s.size : Int) < p then (s.size : Int) else p) = m) (hx : (if (0 : Int) < m then m else 0) = (a : Int)) (ha : a ≤ s.size) (R : Rt) (hr : RdT Γ s 122 [] a R) (hb : ∀ x b,R = .ok x b → b ≤ s.size) :
 DFn Tryd.prog Γ 100 [sD s,iD p] (begR s R):=by
 cases R with
 | no b=>exact begin_no Γ s hs p m a hm hx ha b hr
 | ok x b =>
  unfold begR
  by_cases hc : tCheck x = 0
  · simp only [if_pos hc];exact begin_ok Γ s hs p m a hm hx ha x b (hb x b rfl) hr hc
  · simp only [if_neg hc];exact begin_bad Γ s hs p m a hm hx ha x b (hb x b rfl) hr hc
end Go.Proofs.YtdcplkefmpjppaaDoor.GG
