/- The other end of a type in which nothing is carried, in plain words: its tree is the other end of the tree. -/
import Derived.Test.YtdcplkefmpjppaaGreatDoorHQ6
import Derived.Test.YtdcplkefmpjppaaGreatDoorHQ5
import Derived.Test.YtdcplkefmpjppaaGreatDoorH19
set_option linter.unusedVariables false
set_option linter.unusedSimpArgs false
namespace Go.Proofs.YtdcplkefmpjppaaGreatDoor
open Go.RowKit Go.Sw

mutual
def dTp : Tp → Tp
 | .mk k so nm ls l=>.mk (dKind k) so nm ls (dTps l)
def dTps : List Tp → List Tp
 | []=>[]
 | x :: l=>dTp x :: dTps l
end
theorem dTps_map : ∀ l,dTps l = l.map dTp
 | []=>rfl
 | x :: l=>by simp [dTps,dTps_map l]
mutual
def NoC : Tp → Prop
 | .mk k so nm ls l => ¬ (k = 4 ∨ k = 5) ∧ NoCs l
def NoCs : List Tp → Prop
 | []=>True
 | x :: l=>NoC x ∧ NoCs l
end
theorem NoCs_mem : ∀ {l : List Tp} {x : Tp},NoCs l → x ∈ l → NoC x
 | y :: l,x,h,hx=>by
  rcases List.mem_cons.1 hx with rfl | hx
  · exact h.1
  · exact NoCs_mem h.2 hx
theorem dKind_not {k : Int} (h : k ≠ 8 ∧ k ≠ 9) : dKind k ≠ 8 ∧ dKind k ≠ 9:=by
 refine ⟨fun e=>h.1 ?_,fun e=>h.2 ?_⟩
 · rw [← dKind_inv k,e];rfl
 · rw [← dKind_inv k,e];rfl
theorem den_dTp {x : Tp} (hx : OkT x) : NoC x → ∀ (ρ ρ' : Env),(∀ a n, ρ' a n = dT n (ρ a n)) → ∀ n,den (dTp x) ρ' n = dT n (den x ρ n):=by
 have node : ∀ (k so : Int) (nm : ByteArray) (ls : List ByteArray) (l : List Tp),k ≠ 9 → k ≠ 8 → NoC (.mk k so nm ls l) → (∀ x ∈ l,NoC x → ∀ (ρ ρ' : Env),(∀ a n, ρ' a n = dT n (ρ a n)) → ∀ n,den (dTp x) ρ' n = dT n (den x ρ n)) → ∀ (ρ ρ' : Env),(∀ a n, ρ' a n = dT n (ρ a n)) → ∀ n,den (dTp (.mk k so nm ls l)) ρ' n = dT n (den (.mk k so nm ls l) ρ n):=by
  intro k so nm ls l h9 h8 hc ih ρ ρ' hρ n
  obtain ⟨d8,d9⟩:=dKind_not ⟨h8,h9⟩
  unfold NoC at hc
  rw [dTp]
  cases n with
  | zero=>rw [(den_node d9 d8 ρ' 0).2,(den_node h9 h8 ρ 0).2,dT_cut]
  | succ n =>
   rw [(den_node d9 d8 ρ' n).1,(den_node h9 h8 ρ n).1,dT,if_neg hc.1,dTps_map,List.map_map,List.map_map]
   congr 1
   exact List.map_congr_left fun x hx=>ih x hx (NoCs_mem hc.2 hx) ρ ρ' hρ n
 induction hx with
 | nil=>intro hc;exact node _ _ _ _ _ (by decide) (by decide) hc (fun x hx=>by cases hx)
 | pass k so x hk h1 h3 hx ih=>intro hc;exact node _ _ _ _ _ (by omega) (by omega) hc (fun y hy=>by rw [show y = x by simpa using hy];exact ih)
 | give k x y hk hx hy ih1 ih2=>intro hc;unfold NoC at hc;exact absurd hk hc.1
 | pick k ls l hk hl hn h ih=>intro hc;exact node _ _ _ _ _ (by omega) (by omega) hc ih
 | bind nm x hn hx ih =>
  intro hc ρ ρ' hρ n
  unfold NoC at hc
  have hcx : NoC x:=hc.2.1
  rw [dTp,dTps,dTps,show dKind 8 = 8 from rfl,den_rec,den_rec]
  have it : ∀ (j n : Nat),itB (fun X=>den (dTp x) (updE ρ' nm X)) j n = dT n (itB (fun X=>den x (updE ρ nm X)) j n):=by
   intro j
   induction j with
   | zero=>intro n;exact (dT_cut n).symm
   | succ j ihj =>
    intro n
    refine ih hcx _ _ (fun a m=>?_) n
    unfold updE
    split
    · exact ihj m
    · exact hρ a m
  exact it (n + 1) n
 | var nm hn =>
  intro hc ρ ρ' hρ n
  rw [dTp,dTps,show dKind 9 = 9 from rfl,den_var,den_var]
  exact hρ nm n
end Go.Proofs.YtdcplkefmpjppaaGreatDoor
/- dual.Are of two types of which nothing is carried: one the other one's other end; a symbolic walk. -/
-- TYPESA
namespace Go.Proofs.YtdcplkefmpjppaaGreatDoor
open Go.RowKit Go.Sw

theorem dG_dTp {x : Tp} (hx : tCheck x = 0) (hy : tCheck (dTp x) = 0) (hn : NoC x) : dG x = ofP (dTp x):=by
 obtain ⟨a1,a2,a3⟩:=ofP_good hx
 obtain ⟨-, -, -,h4,h5,h6⟩:=raw_good hy
 have hd:=dual_good a3 (ofP_sh hx)
 have hl:=dualRaw_len (ofP x)
 unfold dG
 conv=>rhs;unfold ofP
 rw [if_pos hx,if_pos hy]
 refine (least_iff (g:=dualRaw (ofP x)) (h:=rawP (dTp x)) hd.1 (by omega) h6 h4).2 fun n=>?_
 rw [obs_dual a3 n 0 (by decide) (by omega),ofP_obs hx]
 show dT n (trT x n) = trT (dTp x) n
 have e1:=congrFun (trT_den hx eps) n
 have e2:=congrFun (trT_den hy eps) n
 rw [e1,e2]
 refine (den_dTp (check_all hx).1 hn eps eps (fun a m=>?_) n).symm
 exact (dT_cut m).symm
set_option maxHeartbeats 8000000 in
set_option maxRecDepth 100000 in
theorem are_fn (Γ : Gl) (hΓ : PowT Γ) (x y : Tp) (hx : tCheck x = 0) (hy : tCheck y = 0) (he : dG x = ofP y) : DFn Tryz.prog Γ 12 [x.d,y.d] (.tup [bD true,iD 0]):=by
 have h1:=TCheck_fn Γ x
 have h2:=of_fn Γ y
 unfold OfFn at h2
 have h3:=dOf_fn Γ hΓ x
 obtain ⟨b1,b2,b3⟩:=ofP_good hy
 have h4:=equalG_fn Γ (ofP y) (ofP y) (by omega) (fun n hn=>by have:=(b3 n hn).ok;exact ⟨by have:=this.ls;omega,by have:=this.to;omega⟩)
 have hq : eqG (ofP y) (ofP y) = true:=eqG_iff.2 rfl
 rw [hx] at h1 h3
 rw [hy] at h2
 rw [he] at h3
 rw [hq] at h4
 generalize (ofP y).map Nd.d = L at *
 obtain ⟨k,so,nm,ls,l⟩:=x
 obtain ⟨k',so',nm',ls',l'⟩:=y
 simp only [Tp.d] at h1 h2 h3 ⊢
 refine fn_of_swp (N:=32) Tryz.func12 rfl (by decide) rfl rfl (by simp) (fun C h0=>?_)
 simp only [argE]
 repeat' (first|(with_reducible apply zz1)|((with_reducible apply zz2);rfl;intro K' hK';simp only [WA,simprocAttr];(repeat (constructor;focus (clear hK';intros;simp_all;done)));(try (apply hK';clear hK' K')))|((with_reducible apply zz3);rfl;all_goals (intro h;try exact absurd h (by decide))))
 refine stop_callF rfl (by simp only [WA,simprocAttr]) rfl rfl (h1) ?_
 simp only [WA,simprocAttr,inX,dropS, ]
 (repeat (constructor;focus (clear hK';intros;simp_all;done)))
 (try (apply hK';clear hK' K'))
 repeat' (first|(with_reducible apply zz1)|((with_reducible apply zz2);rfl;intro K' hK';simp only [WA,simprocAttr,bne_self_eq_false];(repeat (constructor;focus (clear hK';intros;simp_all;done)));(try (apply hK';clear hK' K')))|((with_reducible apply zz3);rfl;all_goals (intro h;try exact absurd h (by decide))))
 refine stop_call h0 rfl (by simp only [WA,simprocAttr]) rfl (by simp only [keepS,Option.isSome_some,WA,simprocAttr]) (h2) ?_
 simp only [WA,simprocAttr,inX,dropS, ]
 (repeat (constructor;focus (clear hK';intros;simp_all;done)))
 (try (apply hK';clear hK' K'))
 repeat' (first|(with_reducible apply zz1)|((with_reducible apply zz2);rfl;intro K' hK';simp only [WA,simprocAttr,bne_self_eq_false];(repeat (constructor;focus (clear hK';intros;simp_all;done)));(try (apply hK';clear hK' K')))|((with_reducible apply zz3);rfl;all_goals (intro h;try exact absurd h (by decide))))
 refine stop_call h0 rfl (by simp only [WA,simprocAttr]) rfl (by simp only [keepS,Option.isSome_some,WA,simprocAttr]) (h3) ?_
 simp only [WA,simprocAttr,inX,dropS, ]
 (repeat (constructor;focus (clear hK';intros;simp_all;done)))
 (try (apply hK';clear hK' K'))
 repeat' (first|(with_reducible apply zz1)|((with_reducible apply zz2);rfl;intro K' hK';simp only [WA,simprocAttr];(repeat (constructor;focus (clear hK';intros;simp_all;done)));(try (apply hK';clear hK' K')))|((with_reducible apply zz3);rfl;all_goals (intro h;try exact absurd h (by decide))))
 refine stop_callF rfl (by simp only [WA,simprocAttr]) rfl rfl (h4) ?_
 simp only [WA,simprocAttr,inX,dropS, ]
 (repeat (constructor;focus (clear hK';intros;simp_all;done)))
 (try (apply hK';clear hK' K'))
 repeat' (first|(with_reducible apply zz1)|((with_reducible apply zz2);rfl;intro K' hK';simp only [WA,simprocAttr];(repeat (constructor;focus (clear hK';intros;simp_all;done)));(try (apply hK';clear hK' K')))|((with_reducible apply zz3);rfl;all_goals (intro h;try exact absurd h (by decide))))
 simp only [Kret,retL,retOne,oneV,WA,simprocAttr]
end Go.Proofs.YtdcplkefmpjppaaGreatDoor
