/- below.bound's add, its closure next; a symbolic walk. -/
-- TYPESD
import Derived.Test.YtgecnlcbdbaneaaDoorH17
import Derived.Test.YtgecnlcbdbaneaaDoorKY3
import Derived.Test.YtgecnlcbdbaneaaDoorKY4
import Derived.Test.YtgecnlcbdbaneaaDoorSwD
set_option linter.unusedVariables false
set_option linter.unusedSimpArgs false
namespace Go.Proofs.YtgecnlcbdbaneaaDoor
open Go.RowKit Go.Sw
open Go.Sw renaming swp_seq → zw0

def bdSt (A B : List Nd) (s : Bd) : St:=[(0,.cells (bdC A B)),(1,.mp (mK s.ks)),(2,.row 4 (s.ns.map Nd.d)),(3,.row 1 (s.sm.map bD)),(4,.row 1 (s.fl.map bD))]
def AddF (Γ : Gl) (A B : List Nd) (f : Nat) : Prop := ∀ (q : Ky) (s : Bd),WF A.length B.length s → okK A.length B.length q → (A.length + 1) * (B.length + 1) * 2 + 1 ≤ s.ks.length + f →
 SFn Tryd.prog Γ 74 [.ref 0 0,.d (iD q.i),.d (iD q.k),.d (iD q.u)] (bdSt A B s) (.d (iD (addB A B f q s).1)) (bdSt A B (addB A B f q s).2)
def nxSt (A B : List Nd) (s : Bd) (i k : Int) (xk xso : Int) (ls : List ByteArray) (to : List Int) : St :=
 [(0,.cells (bdC A B)),(1,.mp (mK s.ks)),(2,.row 4 (s.ns.map Nd.d)),(3,.row 1 (s.sm.map bD)),(4,.row 1 (s.fl.map bD)),(5,.cells [.ref 0 0]),(6,.cells [.d (iD i)]),(7,.cells [.d (iD k)]),(32,.cells [.d (iD xk),.d (iD xso),.d (.slc (ls.map sD)),.own 33]),(33,.row 1 (to.map iD))]
set_option maxHeartbeats 16000000 in
set_option maxRecDepth 100000 in
theorem next_fn (Γ : Gl) {A B : List Nd} (HA : Gd A) (HB : Gd B) (f : Nat) (ih : AddF Γ A B f) (i k p r u : Int) (s : Bd) (xk xso : Int) (ls : List ByteArray) (to : List Int) (hw : WF A.length B.length s) (hi : i = -1 ∨ inr A i) (hk : k = -1 ∨ inr B k)
 (hp : i = -1 ∨ p = -1 ∨ (0 ≤ p ∧ p < ((gAt A i).to.length : Int))) (hr : k = -1 ∨ r = -1 ∨ (0 ≤ r ∧ r < ((gAt B k).to.length : Int))) (hq : okK A.length B.length ⟨goK A i p,goK B k r,u⟩) (hf : (A.length + 1) * (B.length + 1) * 2 + 1 ≤ s.ks.length + f) (ht : to.length ≤ 100) :
 SFn Tryd.prog Γ 85 [.d (iD p),.d (iD r),.d (iD u),.ref 6 0,.ref 5 0,.ref 7 0,.ref 32 0] (nxSt A B s i k xk xso ls to) (.tup [])
  (nxSt A B (addB A B f ⟨goK A i p,goK B k r,u⟩ s).2 i k xk xso ls (to ++ [(addB A B f ⟨goK A i p,goK B k r,u⟩ s).1])):=by
 have hadd:=ih _ s hw hq hf
 simp only at hadd
 generalize hS : goK A i p = si at *
 generalize hT : goK B k r = ti at *
 generalize addB A B f ⟨si,ti,u⟩ s = R at *
 obtain ⟨n,s'⟩:=R
 simp only [bdSt,bdC] at hadd
 simp only [nxSt,bdC]
 refine sfn_of_swp (N:=56) Tryd.func85 rfl (by decide) rfl rfl (by simp) (fun C h0=>?_)
 simp only [argS]
 refine zw0 ?_
 refine swp_midK [(0,.d (iD p)),(1,.d (iD r)),(2,.d (iD u)),(3,.ref 6 0),(4,.ref 5 0),(5,.ref 7 0),(6,.ref 32 0),(10,.d (iD (-1))),(11,.d (iD (-1)))] [(0,.cells [.d (.slc (A.map Nd.d)),.d (.slc (B.map Nd.d)),.mp 1,.own 2,.own 3,.own 4]),(1,.mp (mK s.ks)),(2,.row 4 (s.ns.map Nd.d)),(3,.row 1 (s.sm.map bD)),(4,.row 1 (s.fl.map bD)),(5,.cells [.ref 0 0]),(6,.cells [.d (iD i)]),(7,.cells [.d (iD k)]),(32,.cells [.d (iD xk),.d (iD xso),.d (.slc (ls.map sD)),.own 33]),(33,.row 1 (to.map iD))] ?_ ?_
 · repeat' (first|(with_reducible apply zz1)|((with_reducible refine zz4 ?_ ?_);rfl)|((with_reducible refine zz2 ?_ (fun K' hK'=>?_));rfl;simp only [WD,simprocAttr];(repeat (refine And.intro ?_ ?_;focus (clear hK';intros;simp_all;done)));(try (refine hK' _ _ ?_;clear hK' K')))|((with_reducible refine zz3 ?_ ?_);rfl;refine ⟨_,rfl,fun h=>?_,fun h=>?_⟩ <;> try exact absurd h (by decide)))
   refine ⟨rfl,?_⟩
   refine sub_of h0 ?_ ?_ ?_ <;> simp only [US,WD,simprocAttr]
 refine zw0 ?_
 refine swp_midK [(0,.d (iD p)),(1,.d (iD r)),(2,.d (iD u)),(3,.ref 6 0),(4,.ref 5 0),(5,.ref 7 0),(6,.ref 32 0),(10,.d (iD si)),(11,.d (iD (-1)))] [(0,.cells [.d (.slc (A.map Nd.d)),.d (.slc (B.map Nd.d)),.mp 1,.own 2,.own 3,.own 4]),(1,.mp (mK s.ks)),(2,.row 4 (s.ns.map Nd.d)),(3,.row 1 (s.sm.map bD)),(4,.row 1 (s.fl.map bD)),(5,.cells [.ref 0 0]),(6,.cells [.d (iD i)]),(7,.cells [.d (iD k)]),(32,.cells [.d (iD xk),.d (iD xso),.d (.slc (ls.map sD)),.own 33]),(33,.row 1 (to.map iD))] ?_ ?_
 · unfold goK at hS
   by_cases c1 : i = -1
   · rw [if_pos (.inl c1)] at hS
     subst hS
     have g1 : (i != -1) = false:=by simpa using c1
     repeat' (first|(with_reducible apply zz1)|((with_reducible refine zz4 ?_ ?_);rfl)|((with_reducible refine zz2 ?_ (fun K' hK'=>?_));rfl;simp only [WD,simprocAttr,g1,Bool.not_true,Bool.not_false];(repeat (refine And.intro ?_ ?_;focus (clear hK';intros;simp_all;done)));(try (refine hK' _ _ ?_;clear hK' K')))|((with_reducible refine zz3 ?_ ?_);rfl;refine ⟨_,rfl,fun h=>?_,fun h=>?_⟩ <;> try exact absurd h (by decide)))
     refine ⟨rfl,?_⟩
     refine sub_of h0 ?_ ?_ ?_ <;> simp only [US,WD,simprocAttr]
   · have g1 : (i != -1) = true:=by simpa using c1
     by_cases c2 : p = -1
     · rw [if_pos (.inr c2)] at hS
       subst hS
       have g2 : (p != -1) = false:=by simpa using c2
       repeat' (first|(with_reducible apply zz1)|((with_reducible refine zz4 ?_ ?_);rfl)|((with_reducible refine zz2 ?_ (fun K' hK'=>?_));rfl;simp only [WD,simprocAttr,g1,g2,Bool.not_true,Bool.not_false];(repeat (refine And.intro ?_ ?_;focus (clear hK';intros;simp_all;done)));(try (refine hK' _ _ ?_;clear hK' K')))|((with_reducible refine zz3 ?_ ?_);rfl;refine ⟨_,rfl,fun h=>?_,fun h=>?_⟩ <;> try exact absurd h (by decide)))
       refine ⟨rfl,?_⟩
       refine sub_of h0 ?_ ?_ ?_ <;> simp only [US,WD,simprocAttr]
     · have g2 : (p != -1) = true:=by simpa using c2
       rw [if_neg (by rintro (h | h) <;> contradiction)] at hS
       have hr1 : inr A i:=hi.resolve_left c1
       have hp1:=(hp.resolve_left c1).resolve_left c2
       have a1:=hr1.1
       have a2:=hr1.2
       have a3:=hp1.1
       have a4:=hp1.2
       have hga:=gAt_d a1 a2
       generalize gAt A i = X at *
       obtain ⟨yk,yso,yls,yto⟩:=X
       simp only [Nd.d] at hga
       simp only at a4 hS
       have hgp : (yto.map iD).getD p.toNat default = iD (yto.getD p.toNat 0):=by
        have : p.toNat < yto.length:=by omega
        simp [List.getD,this]
       rw [hS] at hgp
       repeat' (first|(with_reducible apply zz1)|((with_reducible refine zz4 ?_ ?_);rfl)|((with_reducible refine zz2 ?_ (fun K' hK'=>?_));rfl;simp only [WD,simprocAttr,g1,g2,Bool.not_true,Bool.not_false];(repeat (refine And.intro ?_ ?_;focus (clear hK';intros;simp_all;done)));(try (refine hK' _ _ ?_;clear hK' K')))|((with_reducible refine zz3 ?_ ?_);rfl;refine ⟨_,rfl,fun h=>?_,fun h=>?_⟩ <;> try exact absurd h (by decide)))
       (with_reducible refine swp_draw ?_ ?_ ?_ ([]) (fun K' hK'=>?_)
        · kernel_rfl
        · rfl
        · rfl
        simp only [WD,simprocAttr,UG,hga,a1,a2,a3,a4,hgp,List.length_map,List.getD_cons_zero,List.getD_cons_succ]
        (try (refine hK' _ _ ?_;clear hK' K')))
       refine ⟨rfl,?_⟩
       refine sub_of h0 ?_ ?_ ?_ <;> simp only [US,WD,simprocAttr]
 refine zw0 ?_
 refine swp_midK [(0,.d (iD p)),(1,.d (iD r)),(2,.d (iD u)),(3,.ref 6 0),(4,.ref 5 0),(5,.ref 7 0),(6,.ref 32 0),(10,.d (iD si)),(11,.d (iD ti))] [(0,.cells [.d (.slc (A.map Nd.d)),.d (.slc (B.map Nd.d)),.mp 1,.own 2,.own 3,.own 4]),(1,.mp (mK s.ks)),(2,.row 4 (s.ns.map Nd.d)),(3,.row 1 (s.sm.map bD)),(4,.row 1 (s.fl.map bD)),(5,.cells [.ref 0 0]),(6,.cells [.d (iD i)]),(7,.cells [.d (iD k)]),(32,.cells [.d (iD xk),.d (iD xso),.d (.slc (ls.map sD)),.own 33]),(33,.row 1 (to.map iD))] ?_ ?_
 · unfold goK at hT
   by_cases c1 : k = -1
   · rw [if_pos (.inl c1)] at hT
     subst hT
     have g1 : (k != -1) = false:=by simpa using c1
     repeat' (first|(with_reducible apply zz1)|((with_reducible refine zz4 ?_ ?_);rfl)|((with_reducible refine zz2 ?_ (fun K' hK'=>?_));rfl;simp only [WD,simprocAttr,g1,Bool.not_true,Bool.not_false];(repeat (refine And.intro ?_ ?_;focus (clear hK';intros;simp_all;done)));(try (refine hK' _ _ ?_;clear hK' K')))|((with_reducible refine zz3 ?_ ?_);rfl;refine ⟨_,rfl,fun h=>?_,fun h=>?_⟩ <;> try exact absurd h (by decide)))
     refine ⟨rfl,?_⟩
     refine sub_of h0 ?_ ?_ ?_ <;> simp only [US,WD,simprocAttr]
   · have g1 : (k != -1) = true:=by simpa using c1
     by_cases c2 : r = -1
     · rw [if_pos (.inr c2)] at hT
       subst hT
       have g2 : (r != -1) = false:=by simpa using c2
       repeat' (first|(with_reducible apply zz1)|((with_reducible refine zz4 ?_ ?_);rfl)|((with_reducible refine zz2 ?_ (fun K' hK'=>?_));rfl;simp only [WD,simprocAttr,g1,g2,Bool.not_true,Bool.not_false];(repeat (refine And.intro ?_ ?_;focus (clear hK';intros;simp_all;done)));(try (refine hK' _ _ ?_;clear hK' K')))|((with_reducible refine zz3 ?_ ?_);rfl;refine ⟨_,rfl,fun h=>?_,fun h=>?_⟩ <;> try exact absurd h (by decide)))
       refine ⟨rfl,?_⟩
       refine sub_of h0 ?_ ?_ ?_ <;> simp only [US,WD,simprocAttr]
     · have g2 : (r != -1) = true:=by simpa using c2
       rw [if_neg (by rintro (h | h) <;> contradiction)] at hT
       have hr1 : inr B k:=hk.resolve_left c1
       have hp1:=(hr.resolve_left c1).resolve_left c2
       have a1:=hr1.1
       have a2:=hr1.2
       have a3:=hp1.1
       have a4:=hp1.2
       have hga:=gAt_d a1 a2
       generalize gAt B k = X at *
       obtain ⟨yk,yso,yls,yto⟩:=X
       simp only [Nd.d] at hga
       simp only at a4 hT
       have hgp : (yto.map iD).getD r.toNat default = iD (yto.getD r.toNat 0):=by
        have : r.toNat < yto.length:=by omega
        simp [List.getD,this]
       rw [hT] at hgp
       repeat' (first|(with_reducible apply zz1)|((with_reducible refine zz4 ?_ ?_);rfl)|((with_reducible refine zz2 ?_ (fun K' hK'=>?_));rfl;simp only [WD,simprocAttr,g1,g2,Bool.not_true,Bool.not_false];(repeat (refine And.intro ?_ ?_;focus (clear hK';intros;simp_all;done)));(try (refine hK' _ _ ?_;clear hK' K')))|((with_reducible refine zz3 ?_ ?_);rfl;refine ⟨_,rfl,fun h=>?_,fun h=>?_⟩ <;> try exact absurd h (by decide)))
       (with_reducible refine swp_draw ?_ ?_ ?_ ([]) (fun K' hK'=>?_)
        · kernel_rfl
        · rfl
        · rfl
        simp only [WD,simprocAttr,UG,hga,a1,a2,a3,a4,hgp,List.length_map,List.getD_cons_zero,List.getD_cons_succ]
        (try (refine hK' _ _ ?_;clear hK' K')))
       refine ⟨rfl,?_⟩
       refine sub_of h0 ?_ ?_ ?_ <;> simp only [US,WD,simprocAttr]
 have hn1 : to.length + 1 ≤ 140737488355328:=by omega
 have hn2 : to.length + 1 ≤ maxLen:=by unfold maxLen;omega
 have hn3 : (to.length + 1) * 8 ≤ 140737488355328:=by omega
 have hap : to.map iD ++ [iD n] = (to ++ [n]).map iD:=by simp
 refine swp_anyK (by kernel_rfl) (fun _ _ _ h=>h) (fun K' hK' hP' hE'=>?_)
 show Sany C _ 11 (Array.replicate 11 false) _ _ _
 refine any_fld (i:=0) rfl (by kernel_rfl) (by kernel_rfl) (by kernel_rfl) rfl rfl (by simp only [WD];rfl) rfl hE' ?_
 simp only [WD,simprocAttr]
 refine any_move (i:=3) rfl (by kernel_rfl) (by kernel_rfl) (by kernel_rfl) rfl rfl hE' ?_
 simp only [WD,simprocAttr]
 refine any_move (i:=4) rfl (by kernel_rfl) (by kernel_rfl) (by kernel_rfl) rfl rfl hE' ?_
 simp only [WD,simprocAttr]
 refine any_move (i:=5) rfl (by kernel_rfl) (by kernel_rfl) (by kernel_rfl) rfl rfl hE' ?_
 simp only [WD,simprocAttr]
 refine any_all (rs:=[1,2]) (by kernel_rfl) (by simp) (fun i hi=>?_)
 simp only [List.mem_cons,List.not_mem_nil,or_false] at hi
 rcases hi with rfl | rfl
 · refine ⟨_,rfl,rfl,?_⟩
   refine aop_step rfl rfl (by simp only [WD,simprocAttr];rfl) ?_ ?_
   · (repeat (refine And.intro ?_ ?_)) <;> first | trivial | (simp_all;done)
   simp only [WD,simprocAttr]
   refine any_all (rs:=[2]) (by kernel_rfl) (by simp) (fun i hi=>?_)
   simp only [List.mem_cons,List.not_mem_nil,or_false] at hi
   obtain rfl:=hi
   refine ⟨_,rfl,rfl,?_⟩
   refine aop_step rfl rfl (by simp only [WD,simprocAttr,hap,hn1,hn2,hn3,List.length_map];rfl) ?_ ?_
   · (repeat (refine And.intro ?_ ?_)) <;> first | trivial | (simp_all;done)
   simp only [WD,simprocAttr,hap,hn1,hn2,hn3,List.length_map]
   refine any_all (rs:=[6]) (by kernel_rfl) (by simp) (fun i hi=>?_)
   simp only [List.mem_cons,List.not_mem_nil,or_false] at hi
   obtain rfl:=hi
   refine ⟨_,rfl,rfl,?_⟩
   refine aop_cS rfl rfl (by simp only [UA,WD,simprocAttr]) (hadd) ?_
   simp only [UM,WD,simprocAttr]
   refine any_all (rs:=[7]) (by kernel_rfl) (by simp) (fun i hi=>?_)
   simp only [List.mem_cons,List.not_mem_nil,or_false] at hi
   obtain rfl:=hi
   refine ⟨_,rfl,rfl,?_⟩
   refine aop_step rfl rfl (by simp only [WD,simprocAttr,hap,hn1,hn2,hn3,List.length_map];rfl) ?_ ?_
   · (repeat (refine And.intro ?_ ?_)) <;> first | trivial | (simp_all;done)
   simp only [WD,simprocAttr,hap,hn1,hn2,hn3,List.length_map]
   refine any_all (rs:=[8]) (by kernel_rfl) (by simp) (fun i hi=>?_)
   simp only [List.mem_cons,List.not_mem_nil,or_false] at hi
   obtain rfl:=hi
   refine ⟨_,rfl,rfl,?_⟩
   refine aop_step rfl rfl (by simp only [WD,simprocAttr,hap,hn1,hn2,hn3,List.length_map];rfl) ?_ ?_
   · (repeat (refine And.intro ?_ ?_)) <;> first | trivial | (simp_all;done)
   simp only [WD,simprocAttr,hap,hn1,hn2,hn3,List.length_map]
   refine any_all (rs:=[9]) (by kernel_rfl) (by simp) (fun i hi=>?_)
   simp only [List.mem_cons,List.not_mem_nil,or_false] at hi
   obtain rfl:=hi
   refine ⟨_,rfl,rfl,?_⟩
   refine aop_step rfl rfl (by simp only [WD,simprocAttr,hap,hn1,hn2,hn3,List.length_map];rfl) ?_ ?_
   · (repeat (refine And.intro ?_ ?_)) <;> first | trivial | (simp_all;done)
   simp only [WD,simprocAttr,hap,hn1,hn2,hn3,List.length_map]
   refine any_all (rs:=[10]) (by kernel_rfl) (by simp) (fun i hi=>?_)
   simp only [List.mem_cons,List.not_mem_nil,or_false] at hi
   obtain rfl:=hi
   refine ⟨_,rfl,rfl,?_⟩
   refine aop_step rfl rfl (by simp only [WD,simprocAttr,hap,hn1,hn2,hn3,List.length_map];rfl) ?_ ?_
   · (repeat (refine And.intro ?_ ?_)) <;> first | trivial | (simp_all;done)
   simp only [WD,simprocAttr,hap,hn1,hn2,hn3,List.length_map]
   refine any_done (by kernel_rfl) ?_
   refine hK' _ _ ?_
   clear hK' hP' hE' K'
   repeat' (first|(with_reducible apply zz1)|((with_reducible refine zz4 ?_ ?_);rfl)|((with_reducible refine zz2 ?_ (fun K' hK'=>?_));rfl;simp only [WD,simprocAttr];(repeat (refine And.intro ?_ ?_;focus (clear hK';intros;simp_all;done)));(try (refine hK' _ _ ?_;clear hK' K')))|((with_reducible refine zz3 ?_ ?_);rfl;refine ⟨_,rfl,fun h=>?_,fun h=>?_⟩ <;> try exact absurd h (by decide)))
   simp only [KretS,retL,retOne,oneV,US,WD,simprocAttr,h0]
 · refine ⟨_,rfl,rfl,?_⟩
   refine aop_step rfl rfl (by simp only [WD,simprocAttr];rfl) ?_ ?_
   · (repeat (refine And.intro ?_ ?_)) <;> first | trivial | (simp_all;done)
   simp only [WD,simprocAttr]
   refine any_all (rs:=[1,6]) (by kernel_rfl) (by simp) (fun i hi=>?_)
   simp only [List.mem_cons,List.not_mem_nil,or_false] at hi
   rcases hi with rfl | rfl
   · refine ⟨_,rfl,rfl,?_⟩
     refine aop_step rfl rfl (by simp only [WD,simprocAttr];rfl) ?_ ?_
     · (repeat (refine And.intro ?_ ?_)) <;> first | trivial | (simp_all;done)
     simp only [WD,simprocAttr]
     refine any_all (rs:=[6]) (by kernel_rfl) (by simp) (fun i hi=>?_)
     simp only [List.mem_cons,List.not_mem_nil,or_false] at hi
     obtain rfl:=hi
     refine ⟨_,rfl,rfl,?_⟩
     refine aop_cS rfl rfl (by simp only [UA,WD,simprocAttr]) (hadd) ?_
     simp only [UM,WD,simprocAttr]
     refine any_all (rs:=[7]) (by kernel_rfl) (by simp) (fun i hi=>?_)
     simp only [List.mem_cons,List.not_mem_nil,or_false] at hi
     obtain rfl:=hi
     refine ⟨_,rfl,rfl,?_⟩
     refine aop_step rfl rfl (by simp only [WD,simprocAttr,hap,hn1,hn2,hn3,List.length_map];rfl) ?_ ?_
     · (repeat (refine And.intro ?_ ?_)) <;> first | trivial | (simp_all;done)
     simp only [WD,simprocAttr,hap,hn1,hn2,hn3,List.length_map]
     refine any_all (rs:=[8]) (by kernel_rfl) (by simp) (fun i hi=>?_)
     simp only [List.mem_cons,List.not_mem_nil,or_false] at hi
     obtain rfl:=hi
     refine ⟨_,rfl,rfl,?_⟩
     refine aop_step rfl rfl (by simp only [WD,simprocAttr,hap,hn1,hn2,hn3,List.length_map];rfl) ?_ ?_
     · (repeat (refine And.intro ?_ ?_)) <;> first | trivial | (simp_all;done)
     simp only [WD,simprocAttr,hap,hn1,hn2,hn3,List.length_map]
     refine any_all (rs:=[9]) (by kernel_rfl) (by simp) (fun i hi=>?_)
     simp only [List.mem_cons,List.not_mem_nil,or_false] at hi
     obtain rfl:=hi
     refine ⟨_,rfl,rfl,?_⟩
     refine aop_step rfl rfl (by simp only [WD,simprocAttr,hap,hn1,hn2,hn3,List.length_map];rfl) ?_ ?_
     · (repeat (refine And.intro ?_ ?_)) <;> first | trivial | (simp_all;done)
     simp only [WD,simprocAttr,hap,hn1,hn2,hn3,List.length_map]
     refine any_all (rs:=[10]) (by kernel_rfl) (by simp) (fun i hi=>?_)
     simp only [List.mem_cons,List.not_mem_nil,or_false] at hi
     obtain rfl:=hi
     refine ⟨_,rfl,rfl,?_⟩
     refine aop_step rfl rfl (by simp only [WD,simprocAttr,hap,hn1,hn2,hn3,List.length_map];rfl) ?_ ?_
     · (repeat (refine And.intro ?_ ?_)) <;> first | trivial | (simp_all;done)
     simp only [WD,simprocAttr,hap,hn1,hn2,hn3,List.length_map]
     refine any_done (by kernel_rfl) ?_
     refine hK' _ _ ?_
     clear hK' hP' hE' K'
     repeat' (first|(with_reducible apply zz1)|((with_reducible refine zz4 ?_ ?_);rfl)|((with_reducible refine zz2 ?_ (fun K' hK'=>?_));rfl;simp only [WD,simprocAttr];(repeat (refine And.intro ?_ ?_;focus (clear hK';intros;simp_all;done)));(try (refine hK' _ _ ?_;clear hK' K')))|((with_reducible refine zz3 ?_ ?_);rfl;refine ⟨_,rfl,fun h=>?_,fun h=>?_⟩ <;> try exact absurd h (by decide)))
     simp only [KretS,retL,retOne,oneV,US,WD,simprocAttr,h0]
   · refine ⟨_,rfl,rfl,?_⟩
     refine aop_cS rfl rfl (by simp only [UA,WD,simprocAttr]) (hadd) ?_
     simp only [UM,WD,simprocAttr]
     refine any_all (rs:=[1,7]) (by kernel_rfl) (by simp) (fun i hi=>?_)
     simp only [List.mem_cons,List.not_mem_nil,or_false] at hi
     rcases hi with rfl | rfl
     · refine ⟨_,rfl,rfl,?_⟩
       refine aop_step rfl rfl (by simp only [WD,simprocAttr];rfl) ?_ ?_
       · (repeat (refine And.intro ?_ ?_)) <;> first | trivial | (simp_all;done)
       simp only [WD,simprocAttr]
       refine any_all (rs:=[7]) (by kernel_rfl) (by simp) (fun i hi=>?_)
       simp only [List.mem_cons,List.not_mem_nil,or_false] at hi
       obtain rfl:=hi
       refine ⟨_,rfl,rfl,?_⟩
       refine aop_step rfl rfl (by simp only [WD,simprocAttr,hap,hn1,hn2,hn3,List.length_map];rfl) ?_ ?_
       · (repeat (refine And.intro ?_ ?_)) <;> first | trivial | (simp_all;done)
       simp only [WD,simprocAttr,hap,hn1,hn2,hn3,List.length_map]
       refine any_all (rs:=[8]) (by kernel_rfl) (by simp) (fun i hi=>?_)
       simp only [List.mem_cons,List.not_mem_nil,or_false] at hi
       obtain rfl:=hi
       refine ⟨_,rfl,rfl,?_⟩
       refine aop_step rfl rfl (by simp only [WD,simprocAttr,hap,hn1,hn2,hn3,List.length_map];rfl) ?_ ?_
       · (repeat (refine And.intro ?_ ?_)) <;> first | trivial | (simp_all;done)
       simp only [WD,simprocAttr,hap,hn1,hn2,hn3,List.length_map]
       refine any_all (rs:=[9]) (by kernel_rfl) (by simp) (fun i hi=>?_)
       simp only [List.mem_cons,List.not_mem_nil,or_false] at hi
       obtain rfl:=hi
       refine ⟨_,rfl,rfl,?_⟩
       refine aop_step rfl rfl (by simp only [WD,simprocAttr,hap,hn1,hn2,hn3,List.length_map];rfl) ?_ ?_
       · (repeat (refine And.intro ?_ ?_)) <;> first | trivial | (simp_all;done)
       simp only [WD,simprocAttr,hap,hn1,hn2,hn3,List.length_map]
       refine any_all (rs:=[10]) (by kernel_rfl) (by simp) (fun i hi=>?_)
       simp only [List.mem_cons,List.not_mem_nil,or_false] at hi
       obtain rfl:=hi
       refine ⟨_,rfl,rfl,?_⟩
       refine aop_step rfl rfl (by simp only [WD,simprocAttr,hap,hn1,hn2,hn3,List.length_map];rfl) ?_ ?_
       · (repeat (refine And.intro ?_ ?_)) <;> first | trivial | (simp_all;done)
       simp only [WD,simprocAttr,hap,hn1,hn2,hn3,List.length_map]
       refine any_done (by kernel_rfl) ?_
       refine hK' _ _ ?_
       clear hK' hP' hE' K'
       repeat' (first|(with_reducible apply zz1)|((with_reducible refine zz4 ?_ ?_);rfl)|((with_reducible refine zz2 ?_ (fun K' hK'=>?_));rfl;simp only [WD,simprocAttr];(repeat (refine And.intro ?_ ?_;focus (clear hK';intros;simp_all;done)));(try (refine hK' _ _ ?_;clear hK' K')))|((with_reducible refine zz3 ?_ ?_);rfl;refine ⟨_,rfl,fun h=>?_,fun h=>?_⟩ <;> try exact absurd h (by decide)))
       simp only [KretS,retL,retOne,oneV,US,WD,simprocAttr,h0]
     · refine ⟨_,rfl,rfl,?_⟩
       refine aop_step rfl rfl (by simp only [WD,simprocAttr];rfl) ?_ ?_
       · (repeat (refine And.intro ?_ ?_)) <;> first | trivial | (simp_all;done)
       simp only [WD,simprocAttr]
       refine any_all (rs:=[1]) (by kernel_rfl) (by simp) (fun i hi=>?_)
       simp only [List.mem_cons,List.not_mem_nil,or_false] at hi
       obtain rfl:=hi
       refine ⟨_,rfl,rfl,?_⟩
       refine aop_step rfl rfl (by simp only [WD,simprocAttr,hap,hn1,hn2,hn3,List.length_map];rfl) ?_ ?_
       · (repeat (refine And.intro ?_ ?_)) <;> first | trivial | (simp_all;done)
       simp only [WD,simprocAttr,hap,hn1,hn2,hn3,List.length_map]
       refine any_all (rs:=[8]) (by kernel_rfl) (by simp) (fun i hi=>?_)
       simp only [List.mem_cons,List.not_mem_nil,or_false] at hi
       obtain rfl:=hi
       refine ⟨_,rfl,rfl,?_⟩
       refine aop_step rfl rfl (by simp only [WD,simprocAttr,hap,hn1,hn2,hn3,List.length_map];rfl) ?_ ?_
       · (repeat (refine And.intro ?_ ?_)) <;> first | trivial | (simp_all;done)
       simp only [WD,simprocAttr,hap,hn1,hn2,hn3,List.length_map]
       refine any_all (rs:=[9]) (by kernel_rfl) (by simp) (fun i hi=>?_)
       simp only [List.mem_cons,List.not_mem_nil,or_false] at hi
       obtain rfl:=hi
       refine ⟨_,rfl,rfl,?_⟩
       refine aop_step rfl rfl (by simp only [WD,simprocAttr,hap,hn1,hn2,hn3,List.length_map];rfl) ?_ ?_
       · (repeat (refine And.intro ?_ ?_)) <;> first | trivial | (simp_all;done)
       simp only [WD,simprocAttr,hap,hn1,hn2,hn3,List.length_map]
       refine any_all (rs:=[10]) (by kernel_rfl) (by simp) (fun i hi=>?_)
       simp only [List.mem_cons,List.not_mem_nil,or_false] at hi
       obtain rfl:=hi
       refine ⟨_,rfl,rfl,?_⟩
       refine aop_step rfl rfl (by simp only [WD,simprocAttr,hap,hn1,hn2,hn3,List.length_map];rfl) ?_ ?_
       · (repeat (refine And.intro ?_ ?_)) <;> first | trivial | (simp_all;done)
       simp only [WD,simprocAttr,hap,hn1,hn2,hn3,List.length_map]
       refine any_done (by kernel_rfl) ?_
       refine hK' _ _ ?_
       clear hK' hP' hE' K'
       repeat' (first|(with_reducible apply zz1)|((with_reducible refine zz4 ?_ ?_);rfl)|((with_reducible refine zz2 ?_ (fun K' hK'=>?_));rfl;simp only [WD,simprocAttr];(repeat (refine And.intro ?_ ?_;focus (clear hK';intros;simp_all;done)));(try (refine hK' _ _ ?_;clear hK' K')))|((with_reducible refine zz3 ?_ ?_);rfl;refine ⟨_,rfl,fun h=>?_,fun h=>?_⟩ <;> try exact absurd h (by decide)))
       simp only [KretS,retL,retOne,oneV,US,WD,simprocAttr,h0]
def nxSt0 (A B : List Nd) (s : Bd) (i k : Int) (xk xso : Int) (to : List Int) : St :=
 [(0,.cells (bdC A B)),(1,.mp (mK s.ks)),(2,.row 4 (s.ns.map Nd.d)),(3,.row 1 (s.sm.map bD)),(4,.row 1 (s.fl.map bD)),(5,.cells [.ref 0 0]),(6,.cells [.d (iD i)]),(7,.cells [.d (iD k)]),(32,.cells [.d (iD xk),.d (iD xso),.nil,.own 33]),(33,.row 1 (to.map iD))]
set_option maxHeartbeats 16000000 in
set_option maxRecDepth 100000 in
theorem next_fn0 (Γ : Gl) {A B : List Nd} (HA : Gd A) (HB : Gd B) (f : Nat) (ih : AddF Γ A B f) (i k p r u : Int) (s : Bd) (xk xso : Int) (to : List Int) (hw : WF A.length B.length s) (hi : i = -1 ∨ inr A i) (hk : k = -1 ∨ inr B k)
 (hp : i = -1 ∨ p = -1 ∨ (0 ≤ p ∧ p < ((gAt A i).to.length : Int))) (hr : k = -1 ∨ r = -1 ∨ (0 ≤ r ∧ r < ((gAt B k).to.length : Int))) (hq : okK A.length B.length ⟨goK A i p,goK B k r,u⟩) (hf : (A.length + 1) * (B.length + 1) * 2 + 1 ≤ s.ks.length + f) (ht : to.length ≤ 100) :
 SFn Tryd.prog Γ 85 [.d (iD p),.d (iD r),.d (iD u),.ref 6 0,.ref 5 0,.ref 7 0,.ref 32 0] (nxSt0 A B s i k xk xso to) (.tup [])
  (nxSt0 A B (addB A B f ⟨goK A i p,goK B k r,u⟩ s).2 i k xk xso (to ++ [(addB A B f ⟨goK A i p,goK B k r,u⟩ s).1])):=by
 have hadd:=ih _ s hw hq hf
 simp only at hadd
 generalize hS : goK A i p = si at *
 generalize hT : goK B k r = ti at *
 generalize addB A B f ⟨si,ti,u⟩ s = R at *
 obtain ⟨n,s'⟩:=R
 simp only [bdSt,bdC] at hadd
 simp only [nxSt0,bdC]
 refine sfn_of_swp (N:=56) Tryd.func85 rfl (by decide) rfl rfl (by simp) (fun C h0=>?_)
 simp only [argS]
 refine zw0 ?_
 refine swp_midK [(0,.d (iD p)),(1,.d (iD r)),(2,.d (iD u)),(3,.ref 6 0),(4,.ref 5 0),(5,.ref 7 0),(6,.ref 32 0),(10,.d (iD (-1))),(11,.d (iD (-1)))] [(0,.cells [.d (.slc (A.map Nd.d)),.d (.slc (B.map Nd.d)),.mp 1,.own 2,.own 3,.own 4]),(1,.mp (mK s.ks)),(2,.row 4 (s.ns.map Nd.d)),(3,.row 1 (s.sm.map bD)),(4,.row 1 (s.fl.map bD)),(5,.cells [.ref 0 0]),(6,.cells [.d (iD i)]),(7,.cells [.d (iD k)]),(32,.cells [.d (iD xk),.d (iD xso),.nil,.own 33]),(33,.row 1 (to.map iD))] ?_ ?_
 · repeat' (first|(with_reducible apply zz1)|((with_reducible refine zz4 ?_ ?_);rfl)|((with_reducible refine zz2 ?_ (fun K' hK'=>?_));rfl;simp only [WD,simprocAttr];(repeat (refine And.intro ?_ ?_;focus (clear hK';intros;simp_all;done)));(try (refine hK' _ _ ?_;clear hK' K')))|((with_reducible refine zz3 ?_ ?_);rfl;refine ⟨_,rfl,fun h=>?_,fun h=>?_⟩ <;> try exact absurd h (by decide)))
   refine ⟨rfl,?_⟩
   refine sub_of h0 ?_ ?_ ?_ <;> simp only [US,WD,simprocAttr]
 refine zw0 ?_
 refine swp_midK [(0,.d (iD p)),(1,.d (iD r)),(2,.d (iD u)),(3,.ref 6 0),(4,.ref 5 0),(5,.ref 7 0),(6,.ref 32 0),(10,.d (iD si)),(11,.d (iD (-1)))] [(0,.cells [.d (.slc (A.map Nd.d)),.d (.slc (B.map Nd.d)),.mp 1,.own 2,.own 3,.own 4]),(1,.mp (mK s.ks)),(2,.row 4 (s.ns.map Nd.d)),(3,.row 1 (s.sm.map bD)),(4,.row 1 (s.fl.map bD)),(5,.cells [.ref 0 0]),(6,.cells [.d (iD i)]),(7,.cells [.d (iD k)]),(32,.cells [.d (iD xk),.d (iD xso),.nil,.own 33]),(33,.row 1 (to.map iD))] ?_ ?_
 · unfold goK at hS
   by_cases c1 : i = -1
   · rw [if_pos (.inl c1)] at hS
     subst hS
     have g1 : (i != -1) = false:=by simpa using c1
     repeat' (first|(with_reducible apply zz1)|((with_reducible refine zz4 ?_ ?_);rfl)|((with_reducible refine zz2 ?_ (fun K' hK'=>?_));rfl;simp only [WD,simprocAttr,g1,Bool.not_true,Bool.not_false];(repeat (refine And.intro ?_ ?_;focus (clear hK';intros;simp_all;done)));(try (refine hK' _ _ ?_;clear hK' K')))|((with_reducible refine zz3 ?_ ?_);rfl;refine ⟨_,rfl,fun h=>?_,fun h=>?_⟩ <;> try exact absurd h (by decide)))
     refine ⟨rfl,?_⟩
     refine sub_of h0 ?_ ?_ ?_ <;> simp only [US,WD,simprocAttr]
   · have g1 : (i != -1) = true:=by simpa using c1
     by_cases c2 : p = -1
     · rw [if_pos (.inr c2)] at hS
       subst hS
       have g2 : (p != -1) = false:=by simpa using c2
       repeat' (first|(with_reducible apply zz1)|((with_reducible refine zz4 ?_ ?_);rfl)|((with_reducible refine zz2 ?_ (fun K' hK'=>?_));rfl;simp only [WD,simprocAttr,g1,g2,Bool.not_true,Bool.not_false];(repeat (refine And.intro ?_ ?_;focus (clear hK';intros;simp_all;done)));(try (refine hK' _ _ ?_;clear hK' K')))|((with_reducible refine zz3 ?_ ?_);rfl;refine ⟨_,rfl,fun h=>?_,fun h=>?_⟩ <;> try exact absurd h (by decide)))
       refine ⟨rfl,?_⟩
       refine sub_of h0 ?_ ?_ ?_ <;> simp only [US,WD,simprocAttr]
     · have g2 : (p != -1) = true:=by simpa using c2
       rw [if_neg (by rintro (h | h) <;> contradiction)] at hS
       have hr1 : inr A i:=hi.resolve_left c1
       have hp1:=(hp.resolve_left c1).resolve_left c2
       have a1:=hr1.1
       have a2:=hr1.2
       have a3:=hp1.1
       have a4:=hp1.2
       have hga:=gAt_d a1 a2
       generalize gAt A i = X at *
       obtain ⟨yk,yso,yls,yto⟩:=X
       simp only [Nd.d] at hga
       simp only at a4 hS
       have hgp : (yto.map iD).getD p.toNat default = iD (yto.getD p.toNat 0):=by
        have : p.toNat < yto.length:=by omega
        simp [List.getD,this]
       rw [hS] at hgp
       repeat' (first|(with_reducible apply zz1)|((with_reducible refine zz4 ?_ ?_);rfl)|((with_reducible refine zz2 ?_ (fun K' hK'=>?_));rfl;simp only [WD,simprocAttr,g1,g2,Bool.not_true,Bool.not_false];(repeat (refine And.intro ?_ ?_;focus (clear hK';intros;simp_all;done)));(try (refine hK' _ _ ?_;clear hK' K')))|((with_reducible refine zz3 ?_ ?_);rfl;refine ⟨_,rfl,fun h=>?_,fun h=>?_⟩ <;> try exact absurd h (by decide)))
       (with_reducible refine swp_draw ?_ ?_ ?_ ([]) (fun K' hK'=>?_)
        · kernel_rfl
        · rfl
        · rfl
        simp only [WD,simprocAttr,UG,hga,a1,a2,a3,a4,hgp,List.length_map,List.getD_cons_zero,List.getD_cons_succ]
        (try (refine hK' _ _ ?_;clear hK' K')))
       refine ⟨rfl,?_⟩
       refine sub_of h0 ?_ ?_ ?_ <;> simp only [US,WD,simprocAttr]
 refine zw0 ?_
 refine swp_midK [(0,.d (iD p)),(1,.d (iD r)),(2,.d (iD u)),(3,.ref 6 0),(4,.ref 5 0),(5,.ref 7 0),(6,.ref 32 0),(10,.d (iD si)),(11,.d (iD ti))] [(0,.cells [.d (.slc (A.map Nd.d)),.d (.slc (B.map Nd.d)),.mp 1,.own 2,.own 3,.own 4]),(1,.mp (mK s.ks)),(2,.row 4 (s.ns.map Nd.d)),(3,.row 1 (s.sm.map bD)),(4,.row 1 (s.fl.map bD)),(5,.cells [.ref 0 0]),(6,.cells [.d (iD i)]),(7,.cells [.d (iD k)]),(32,.cells [.d (iD xk),.d (iD xso),.nil,.own 33]),(33,.row 1 (to.map iD))] ?_ ?_
 · unfold goK at hT
   by_cases c1 : k = -1
   · rw [if_pos (.inl c1)] at hT
     subst hT
     have g1 : (k != -1) = false:=by simpa using c1
     repeat' (first|(with_reducible apply zz1)|((with_reducible refine zz4 ?_ ?_);rfl)|((with_reducible refine zz2 ?_ (fun K' hK'=>?_));rfl;simp only [WD,simprocAttr,g1,Bool.not_true,Bool.not_false];(repeat (refine And.intro ?_ ?_;focus (clear hK';intros;simp_all;done)));(try (refine hK' _ _ ?_;clear hK' K')))|((with_reducible refine zz3 ?_ ?_);rfl;refine ⟨_,rfl,fun h=>?_,fun h=>?_⟩ <;> try exact absurd h (by decide)))
     refine ⟨rfl,?_⟩
     refine sub_of h0 ?_ ?_ ?_ <;> simp only [US,WD,simprocAttr]
   · have g1 : (k != -1) = true:=by simpa using c1
     by_cases c2 : r = -1
     · rw [if_pos (.inr c2)] at hT
       subst hT
       have g2 : (r != -1) = false:=by simpa using c2
       repeat' (first|(with_reducible apply zz1)|((with_reducible refine zz4 ?_ ?_);rfl)|((with_reducible refine zz2 ?_ (fun K' hK'=>?_));rfl;simp only [WD,simprocAttr,g1,g2,Bool.not_true,Bool.not_false];(repeat (refine And.intro ?_ ?_;focus (clear hK';intros;simp_all;done)));(try (refine hK' _ _ ?_;clear hK' K')))|((with_reducible refine zz3 ?_ ?_);rfl;refine ⟨_,rfl,fun h=>?_,fun h=>?_⟩ <;> try exact absurd h (by decide)))
       refine ⟨rfl,?_⟩
       refine sub_of h0 ?_ ?_ ?_ <;> simp only [US,WD,simprocAttr]
     · have g2 : (r != -1) = true:=by simpa using c2
       rw [if_neg (by rintro (h | h) <;> contradiction)] at hT
       have hr1 : inr B k:=hk.resolve_left c1
       have hp1:=(hr.resolve_left c1).resolve_left c2
       have a1:=hr1.1
       have a2:=hr1.2
       have a3:=hp1.1
       have a4:=hp1.2
       have hga:=gAt_d a1 a2
       generalize gAt B k = X at *
       obtain ⟨yk,yso,yls,yto⟩:=X
       simp only [Nd.d] at hga
       simp only at a4 hT
       have hgp : (yto.map iD).getD r.toNat default = iD (yto.getD r.toNat 0):=by
        have : r.toNat < yto.length:=by omega
        simp [List.getD,this]
       rw [hT] at hgp
       repeat' (first|(with_reducible apply zz1)|((with_reducible refine zz4 ?_ ?_);rfl)|((with_reducible refine zz2 ?_ (fun K' hK'=>?_));rfl;simp only [WD,simprocAttr,g1,g2,Bool.not_true,Bool.not_false];(repeat (refine And.intro ?_ ?_;focus (clear hK';intros;simp_all;done)));(try (refine hK' _ _ ?_;clear hK' K')))|((with_reducible refine zz3 ?_ ?_);rfl;refine ⟨_,rfl,fun h=>?_,fun h=>?_⟩ <;> try exact absurd h (by decide)))
       (with_reducible refine swp_draw ?_ ?_ ?_ ([]) (fun K' hK'=>?_)
        · kernel_rfl
        · rfl
        · rfl
        simp only [WD,simprocAttr,UG,hga,a1,a2,a3,a4,hgp,List.length_map,List.getD_cons_zero,List.getD_cons_succ]
        (try (refine hK' _ _ ?_;clear hK' K')))
       refine ⟨rfl,?_⟩
       refine sub_of h0 ?_ ?_ ?_ <;> simp only [US,WD,simprocAttr]
 have hn1 : to.length + 1 ≤ 140737488355328:=by omega
 have hn2 : to.length + 1 ≤ maxLen:=by unfold maxLen;omega
 have hn3 : (to.length + 1) * 8 ≤ 140737488355328:=by omega
 have hap : to.map iD ++ [iD n] = (to ++ [n]).map iD:=by simp
 refine swp_anyK (by kernel_rfl) (fun _ _ _ h=>h) (fun K' hK' hP' hE'=>?_)
 show Sany C _ 11 (Array.replicate 11 false) _ _ _
 refine any_fld (i:=0) rfl (by kernel_rfl) (by kernel_rfl) (by kernel_rfl) rfl rfl (by simp only [WD];rfl) rfl hE' ?_
 simp only [WD,simprocAttr]
 refine any_move (i:=3) rfl (by kernel_rfl) (by kernel_rfl) (by kernel_rfl) rfl rfl hE' ?_
 simp only [WD,simprocAttr]
 refine any_move (i:=4) rfl (by kernel_rfl) (by kernel_rfl) (by kernel_rfl) rfl rfl hE' ?_
 simp only [WD,simprocAttr]
 refine any_move (i:=5) rfl (by kernel_rfl) (by kernel_rfl) (by kernel_rfl) rfl rfl hE' ?_
 simp only [WD,simprocAttr]
 refine any_all (rs:=[1,2]) (by kernel_rfl) (by simp) (fun i hi=>?_)
 simp only [List.mem_cons,List.not_mem_nil,or_false] at hi
 rcases hi with rfl | rfl
 · refine ⟨_,rfl,rfl,?_⟩
   refine aop_step rfl rfl (by simp only [WD,simprocAttr];rfl) ?_ ?_
   · (repeat (refine And.intro ?_ ?_)) <;> first | trivial | (simp_all;done)
   simp only [WD,simprocAttr]
   refine any_all (rs:=[2]) (by kernel_rfl) (by simp) (fun i hi=>?_)
   simp only [List.mem_cons,List.not_mem_nil,or_false] at hi
   obtain rfl:=hi
   refine ⟨_,rfl,rfl,?_⟩
   refine aop_step rfl rfl (by simp only [WD,simprocAttr,hap,hn1,hn2,hn3,List.length_map];rfl) ?_ ?_
   · (repeat (refine And.intro ?_ ?_)) <;> first | trivial | (simp_all;done)
   simp only [WD,simprocAttr,hap,hn1,hn2,hn3,List.length_map]
   refine any_all (rs:=[6]) (by kernel_rfl) (by simp) (fun i hi=>?_)
   simp only [List.mem_cons,List.not_mem_nil,or_false] at hi
   obtain rfl:=hi
   refine ⟨_,rfl,rfl,?_⟩
   refine aop_cS rfl rfl (by simp only [UA,WD,simprocAttr]) (hadd) ?_
   simp only [UM,WD,simprocAttr]
   refine any_all (rs:=[7]) (by kernel_rfl) (by simp) (fun i hi=>?_)
   simp only [List.mem_cons,List.not_mem_nil,or_false] at hi
   obtain rfl:=hi
   refine ⟨_,rfl,rfl,?_⟩
   refine aop_step rfl rfl (by simp only [WD,simprocAttr,hap,hn1,hn2,hn3,List.length_map];rfl) ?_ ?_
   · (repeat (refine And.intro ?_ ?_)) <;> first | trivial | (simp_all;done)
   simp only [WD,simprocAttr,hap,hn1,hn2,hn3,List.length_map]
   refine any_all (rs:=[8]) (by kernel_rfl) (by simp) (fun i hi=>?_)
   simp only [List.mem_cons,List.not_mem_nil,or_false] at hi
   obtain rfl:=hi
   refine ⟨_,rfl,rfl,?_⟩
   refine aop_step rfl rfl (by simp only [WD,simprocAttr,hap,hn1,hn2,hn3,List.length_map];rfl) ?_ ?_
   · (repeat (refine And.intro ?_ ?_)) <;> first | trivial | (simp_all;done)
   simp only [WD,simprocAttr,hap,hn1,hn2,hn3,List.length_map]
   refine any_all (rs:=[9]) (by kernel_rfl) (by simp) (fun i hi=>?_)
   simp only [List.mem_cons,List.not_mem_nil,or_false] at hi
   obtain rfl:=hi
   refine ⟨_,rfl,rfl,?_⟩
   refine aop_step rfl rfl (by simp only [WD,simprocAttr,hap,hn1,hn2,hn3,List.length_map];rfl) ?_ ?_
   · (repeat (refine And.intro ?_ ?_)) <;> first | trivial | (simp_all;done)
   simp only [WD,simprocAttr,hap,hn1,hn2,hn3,List.length_map]
   refine any_all (rs:=[10]) (by kernel_rfl) (by simp) (fun i hi=>?_)
   simp only [List.mem_cons,List.not_mem_nil,or_false] at hi
   obtain rfl:=hi
   refine ⟨_,rfl,rfl,?_⟩
   refine aop_step rfl rfl (by simp only [WD,simprocAttr,hap,hn1,hn2,hn3,List.length_map];rfl) ?_ ?_
   · (repeat (refine And.intro ?_ ?_)) <;> first | trivial | (simp_all;done)
   simp only [WD,simprocAttr,hap,hn1,hn2,hn3,List.length_map]
   refine any_done (by kernel_rfl) ?_
   refine hK' _ _ ?_
   clear hK' hP' hE' K'
   repeat' (first|(with_reducible apply zz1)|((with_reducible refine zz4 ?_ ?_);rfl)|((with_reducible refine zz2 ?_ (fun K' hK'=>?_));rfl;simp only [WD,simprocAttr];(repeat (refine And.intro ?_ ?_;focus (clear hK';intros;simp_all;done)));(try (refine hK' _ _ ?_;clear hK' K')))|((with_reducible refine zz3 ?_ ?_);rfl;refine ⟨_,rfl,fun h=>?_,fun h=>?_⟩ <;> try exact absurd h (by decide)))
   simp only [KretS,retL,retOne,oneV,US,WD,simprocAttr,h0]
 · refine ⟨_,rfl,rfl,?_⟩
   refine aop_step rfl rfl (by simp only [WD,simprocAttr];rfl) ?_ ?_
   · (repeat (refine And.intro ?_ ?_)) <;> first | trivial | (simp_all;done)
   simp only [WD,simprocAttr]
   refine any_all (rs:=[1,6]) (by kernel_rfl) (by simp) (fun i hi=>?_)
   simp only [List.mem_cons,List.not_mem_nil,or_false] at hi
   rcases hi with rfl | rfl
   · refine ⟨_,rfl,rfl,?_⟩
     refine aop_step rfl rfl (by simp only [WD,simprocAttr];rfl) ?_ ?_
     · (repeat (refine And.intro ?_ ?_)) <;> first | trivial | (simp_all;done)
     simp only [WD,simprocAttr]
     refine any_all (rs:=[6]) (by kernel_rfl) (by simp) (fun i hi=>?_)
     simp only [List.mem_cons,List.not_mem_nil,or_false] at hi
     obtain rfl:=hi
     refine ⟨_,rfl,rfl,?_⟩
     refine aop_cS rfl rfl (by simp only [UA,WD,simprocAttr]) (hadd) ?_
     simp only [UM,WD,simprocAttr]
     refine any_all (rs:=[7]) (by kernel_rfl) (by simp) (fun i hi=>?_)
     simp only [List.mem_cons,List.not_mem_nil,or_false] at hi
     obtain rfl:=hi
     refine ⟨_,rfl,rfl,?_⟩
     refine aop_step rfl rfl (by simp only [WD,simprocAttr,hap,hn1,hn2,hn3,List.length_map];rfl) ?_ ?_
     · (repeat (refine And.intro ?_ ?_)) <;> first | trivial | (simp_all;done)
     simp only [WD,simprocAttr,hap,hn1,hn2,hn3,List.length_map]
     refine any_all (rs:=[8]) (by kernel_rfl) (by simp) (fun i hi=>?_)
     simp only [List.mem_cons,List.not_mem_nil,or_false] at hi
     obtain rfl:=hi
     refine ⟨_,rfl,rfl,?_⟩
     refine aop_step rfl rfl (by simp only [WD,simprocAttr,hap,hn1,hn2,hn3,List.length_map];rfl) ?_ ?_
     · (repeat (refine And.intro ?_ ?_)) <;> first | trivial | (simp_all;done)
     simp only [WD,simprocAttr,hap,hn1,hn2,hn3,List.length_map]
     refine any_all (rs:=[9]) (by kernel_rfl) (by simp) (fun i hi=>?_)
     simp only [List.mem_cons,List.not_mem_nil,or_false] at hi
     obtain rfl:=hi
     refine ⟨_,rfl,rfl,?_⟩
     refine aop_step rfl rfl (by simp only [WD,simprocAttr,hap,hn1,hn2,hn3,List.length_map];rfl) ?_ ?_
     · (repeat (refine And.intro ?_ ?_)) <;> first | trivial | (simp_all;done)
     simp only [WD,simprocAttr,hap,hn1,hn2,hn3,List.length_map]
     refine any_all (rs:=[10]) (by kernel_rfl) (by simp) (fun i hi=>?_)
     simp only [List.mem_cons,List.not_mem_nil,or_false] at hi
     obtain rfl:=hi
     refine ⟨_,rfl,rfl,?_⟩
     refine aop_step rfl rfl (by simp only [WD,simprocAttr,hap,hn1,hn2,hn3,List.length_map];rfl) ?_ ?_
     · (repeat (refine And.intro ?_ ?_)) <;> first | trivial | (simp_all;done)
     simp only [WD,simprocAttr,hap,hn1,hn2,hn3,List.length_map]
     refine any_done (by kernel_rfl) ?_
     refine hK' _ _ ?_
     clear hK' hP' hE' K'
     repeat' (first|(with_reducible apply zz1)|((with_reducible refine zz4 ?_ ?_);rfl)|((with_reducible refine zz2 ?_ (fun K' hK'=>?_));rfl;simp only [WD,simprocAttr];(repeat (refine And.intro ?_ ?_;focus (clear hK';intros;simp_all;done)));(try (refine hK' _ _ ?_;clear hK' K')))|((with_reducible refine zz3 ?_ ?_);rfl;refine ⟨_,rfl,fun h=>?_,fun h=>?_⟩ <;> try exact absurd h (by decide)))
     simp only [KretS,retL,retOne,oneV,US,WD,simprocAttr,h0]
   · refine ⟨_,rfl,rfl,?_⟩
     refine aop_cS rfl rfl (by simp only [UA,WD,simprocAttr]) (hadd) ?_
     simp only [UM,WD,simprocAttr]
     refine any_all (rs:=[1,7]) (by kernel_rfl) (by simp) (fun i hi=>?_)
     simp only [List.mem_cons,List.not_mem_nil,or_false] at hi
     rcases hi with rfl | rfl
     · refine ⟨_,rfl,rfl,?_⟩
       refine aop_step rfl rfl (by simp only [WD,simprocAttr];rfl) ?_ ?_
       · (repeat (refine And.intro ?_ ?_)) <;> first | trivial | (simp_all;done)
       simp only [WD,simprocAttr]
       refine any_all (rs:=[7]) (by kernel_rfl) (by simp) (fun i hi=>?_)
       simp only [List.mem_cons,List.not_mem_nil,or_false] at hi
       obtain rfl:=hi
       refine ⟨_,rfl,rfl,?_⟩
       refine aop_step rfl rfl (by simp only [WD,simprocAttr,hap,hn1,hn2,hn3,List.length_map];rfl) ?_ ?_
       · (repeat (refine And.intro ?_ ?_)) <;> first | trivial | (simp_all;done)
       simp only [WD,simprocAttr,hap,hn1,hn2,hn3,List.length_map]
       refine any_all (rs:=[8]) (by kernel_rfl) (by simp) (fun i hi=>?_)
       simp only [List.mem_cons,List.not_mem_nil,or_false] at hi
       obtain rfl:=hi
       refine ⟨_,rfl,rfl,?_⟩
       refine aop_step rfl rfl (by simp only [WD,simprocAttr,hap,hn1,hn2,hn3,List.length_map];rfl) ?_ ?_
       · (repeat (refine And.intro ?_ ?_)) <;> first | trivial | (simp_all;done)
       simp only [WD,simprocAttr,hap,hn1,hn2,hn3,List.length_map]
       refine any_all (rs:=[9]) (by kernel_rfl) (by simp) (fun i hi=>?_)
       simp only [List.mem_cons,List.not_mem_nil,or_false] at hi
       obtain rfl:=hi
       refine ⟨_,rfl,rfl,?_⟩
       refine aop_step rfl rfl (by simp only [WD,simprocAttr,hap,hn1,hn2,hn3,List.length_map];rfl) ?_ ?_
       · (repeat (refine And.intro ?_ ?_)) <;> first | trivial | (simp_all;done)
       simp only [WD,simprocAttr,hap,hn1,hn2,hn3,List.length_map]
       refine any_all (rs:=[10]) (by kernel_rfl) (by simp) (fun i hi=>?_)
       simp only [List.mem_cons,List.not_mem_nil,or_false] at hi
       obtain rfl:=hi
       refine ⟨_,rfl,rfl,?_⟩
       refine aop_step rfl rfl (by simp only [WD,simprocAttr,hap,hn1,hn2,hn3,List.length_map];rfl) ?_ ?_
       · (repeat (refine And.intro ?_ ?_)) <;> first | trivial | (simp_all;done)
       simp only [WD,simprocAttr,hap,hn1,hn2,hn3,List.length_map]
       refine any_done (by kernel_rfl) ?_
       refine hK' _ _ ?_
       clear hK' hP' hE' K'
       repeat' (first|(with_reducible apply zz1)|((with_reducible refine zz4 ?_ ?_);rfl)|((with_reducible refine zz2 ?_ (fun K' hK'=>?_));rfl;simp only [WD,simprocAttr];(repeat (refine And.intro ?_ ?_;focus (clear hK';intros;simp_all;done)));(try (refine hK' _ _ ?_;clear hK' K')))|((with_reducible refine zz3 ?_ ?_);rfl;refine ⟨_,rfl,fun h=>?_,fun h=>?_⟩ <;> try exact absurd h (by decide)))
       simp only [KretS,retL,retOne,oneV,US,WD,simprocAttr,h0]
     · refine ⟨_,rfl,rfl,?_⟩
       refine aop_step rfl rfl (by simp only [WD,simprocAttr];rfl) ?_ ?_
       · (repeat (refine And.intro ?_ ?_)) <;> first | trivial | (simp_all;done)
       simp only [WD,simprocAttr]
       refine any_all (rs:=[1]) (by kernel_rfl) (by simp) (fun i hi=>?_)
       simp only [List.mem_cons,List.not_mem_nil,or_false] at hi
       obtain rfl:=hi
       refine ⟨_,rfl,rfl,?_⟩
       refine aop_step rfl rfl (by simp only [WD,simprocAttr,hap,hn1,hn2,hn3,List.length_map];rfl) ?_ ?_
       · (repeat (refine And.intro ?_ ?_)) <;> first | trivial | (simp_all;done)
       simp only [WD,simprocAttr,hap,hn1,hn2,hn3,List.length_map]
       refine any_all (rs:=[8]) (by kernel_rfl) (by simp) (fun i hi=>?_)
       simp only [List.mem_cons,List.not_mem_nil,or_false] at hi
       obtain rfl:=hi
       refine ⟨_,rfl,rfl,?_⟩
       refine aop_step rfl rfl (by simp only [WD,simprocAttr,hap,hn1,hn2,hn3,List.length_map];rfl) ?_ ?_
       · (repeat (refine And.intro ?_ ?_)) <;> first | trivial | (simp_all;done)
       simp only [WD,simprocAttr,hap,hn1,hn2,hn3,List.length_map]
       refine any_all (rs:=[9]) (by kernel_rfl) (by simp) (fun i hi=>?_)
       simp only [List.mem_cons,List.not_mem_nil,or_false] at hi
       obtain rfl:=hi
       refine ⟨_,rfl,rfl,?_⟩
       refine aop_step rfl rfl (by simp only [WD,simprocAttr,hap,hn1,hn2,hn3,List.length_map];rfl) ?_ ?_
       · (repeat (refine And.intro ?_ ?_)) <;> first | trivial | (simp_all;done)
       simp only [WD,simprocAttr,hap,hn1,hn2,hn3,List.length_map]
       refine any_all (rs:=[10]) (by kernel_rfl) (by simp) (fun i hi=>?_)
       simp only [List.mem_cons,List.not_mem_nil,or_false] at hi
       obtain rfl:=hi
       refine ⟨_,rfl,rfl,?_⟩
       refine aop_step rfl rfl (by simp only [WD,simprocAttr,hap,hn1,hn2,hn3,List.length_map];rfl) ?_ ?_
       · (repeat (refine And.intro ?_ ?_)) <;> first | trivial | (simp_all;done)
       simp only [WD,simprocAttr,hap,hn1,hn2,hn3,List.length_map]
       refine any_done (by kernel_rfl) ?_
       refine hK' _ _ ?_
       clear hK' hP' hE' K'
       repeat' (first|(with_reducible apply zz1)|((with_reducible refine zz4 ?_ ?_);rfl)|((with_reducible refine zz2 ?_ (fun K' hK'=>?_));rfl;simp only [WD,simprocAttr];(repeat (refine And.intro ?_ ?_;focus (clear hK';intros;simp_all;done)));(try (refine hK' _ _ ?_;clear hK' K')))|((with_reducible refine zz3 ?_ ?_);rfl;refine ⟨_,rfl,fun h=>?_,fun h=>?_⟩ <;> try exact absurd h (by decide)))
       simp only [KretS,retL,retOne,oneV,US,WD,simprocAttr,h0]
end Go.Proofs.YtgecnlcbdbaneaaDoor
