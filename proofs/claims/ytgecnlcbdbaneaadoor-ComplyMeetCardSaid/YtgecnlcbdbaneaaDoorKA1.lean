/- below.bound's add, its closure next; a symbolic walk. -/
-- TYPESD
import Derived.Test.YtgecnlcbdbaneaaDoorHC1
import Derived.Test.YtgecnlcbdbaneaaDoorKY3
import Derived.Test.YtgecnlcbdbaneaaDoorKY4
import Derived.Test.YtgecnlcbdbaneaaDoorSwD
set_option linter.unusedVariables false
set_option linter.unusedSimpArgs false
namespace Go.Proofs.YtgecnlcbdbaneaaDoor
open Go.RowKit Go.Sw
open _root_.List renaming length_map → za, mem_cons → zb, not_mem_nil → ze, getD → zm, getD_cons_zero → zn, getD_cons_succ → zo
open _root_.And renaming intro → zf
open _root_.Bool renaming not_true → zh, not_false → zi
open Go.Sw renaming ql8 → zw0

def bdSt (A B : List Nd) (s : Bd) : St:=[(0,.cells (bdC A B)),(1,.mp (mK s.ks)),(2,.row 4 (s.ns.map Nd.d)),(3,.row 1 (s.sm.map bD)),(4,.row 1 (s.fl.map bD))]
def AddF (Γ : Gl) (A B : List Nd) (f : Nat) : Prop := ∀ (q : Ky) (s : Bd),WF A.length B.length s → okK A.length B.length q → (A.length + 1) * (B.length + 1) * 2 + 1 ≤ s.ks.length + f →
 SFn Tryd.prog Γ 74 [.ref 0 0,.d (iD q.i),.d (iD q.k),.d (iD q.u)] (bdSt A B s) (.d (iD (qy8 A B f q s).1)) (bdSt A B (qy8 A B f q s).2)
def nxSt (A B : List Nd) (s : Bd) (i k : Int) (xk xso : Int) (ls : List ByteArray) (to : List Int) : St :=
 [(0,.cells (bdC A B)),(1,.mp (mK s.ks)),(2,.row 4 (s.ns.map Nd.d)),(3,.row 1 (s.sm.map bD)),(4,.row 1 (s.fl.map bD)),(5,.cells [.ref 0 0]),(6,.cells [.d (iD i)]),(7,.cells [.d (iD k)]),(32,.cells [.d (iD xk),.d (iD xso),.d (.slc (ls.map sD)),.own 33]),(33,.row 1 (to.map iD))]
set_option maxHeartbeats 16000000 in
set_option maxRecDepth 100000 in
theorem next_fn (Γ : Gl) {A B : List Nd} (HA : Gd A) (HB : Gd B) (f : Nat) (ih : AddF Γ A B f) (i k p r u : Int) (s : Bd) (xk xso : Int) (ls : List ByteArray) (to : List Int) (hw : WF A.length B.length s) (hi : i = -1 ∨ inr A i) (hk : k = -1 ∨ inr B k)
 (hp : i = -1 ∨ p = -1 ∨ (0 ≤ p ∧ p < ((gAt A i).to.length : Int))) (hr : k = -1 ∨ r = -1 ∨ (0 ≤ r ∧ r < ((gAt B k).to.length : Int))) (hq : okK A.length B.length ⟨goK A i p,goK B k r,u⟩) (hf : (A.length + 1) * (B.length + 1) * 2 + 1 ≤ s.ks.length + f) (ht : to.length ≤ 100) :
 SFn Tryd.prog Γ 85 [.d (iD p),.d (iD r),.d (iD u),.ref 6 0,.ref 5 0,.ref 7 0,.ref 32 0] (nxSt A B s i k xk xso ls to) (.tup [])
  (nxSt A B (qy8 A B f ⟨goK A i p,goK B k r,u⟩ s).2 i k xk xso ls (to ++ [(qy8 A B f ⟨goK A i p,goK B k r,u⟩ s).1])):=by
 have hadd:=ih _ s hw hq hf
 simp only at hadd
 generalize hS : goK A i p = si at *
 generalize hT : goK B k r = ti at *
 generalize qy8 A B f ⟨si,ti,u⟩ s = R at *
 obtain ⟨n,s'⟩:=R
 simp only [bdSt,bdC] at hadd
 simp only [nxSt,bdC]
 refine qe0 (N:=56) Tryd.func85 rfl (by decide) rfl rfl (by simp) (fun C h0=>?_)
 simp only [vg9]
 refine zw0 ?_
 refine qh2 [(0,.d (iD p)),(1,.d (iD r)),(2,.d (iD u)),(3,.ref 6 0),(4,.ref 5 0),(5,.ref 7 0),(6,.ref 32 0),(10,.d (iD (-1))),(11,.d (iD (-1)))] [(0,.cells [.d (.slc (A.map Nd.d)),.d (.slc (B.map Nd.d)),.mp 1,.own 2,.own 3,.own 4]),(1,.mp (mK s.ks)),(2,.row 4 (s.ns.map Nd.d)),(3,.row 1 (s.sm.map bD)),(4,.row 1 (s.fl.map bD)),(5,.cells [.ref 0 0]),(6,.cells [.d (iD i)]),(7,.cells [.d (iD k)]),(32,.cells [.d (iD xk),.d (iD xso),.d (.slc (ls.map sD)),.own 33]),(33,.row 1 (to.map iD))] ?_ ?_
 · repeat' (first|(with_reducible apply zz1)|((with_reducible apply zz2);rfl;intro K' hK';simp only [WD,simprocAttr];(repeat (constructor;focus (clear hK';intros;simp_all;done)));(try (apply hK';clear hK' K')))|((with_reducible apply zz3);rfl;all_goals (intro h;try exact absurd h (by decide))))
   refine ⟨rfl,?_⟩
   refine qa3 h0 ?_ ?_ ?_ <;> simp only [US,WD,simprocAttr]
 refine zw0 ?_
 refine qh2 [(0,.d (iD p)),(1,.d (iD r)),(2,.d (iD u)),(3,.ref 6 0),(4,.ref 5 0),(5,.ref 7 0),(6,.ref 32 0),(10,.d (iD si)),(11,.d (iD (-1)))] [(0,.cells [.d (.slc (A.map Nd.d)),.d (.slc (B.map Nd.d)),.mp 1,.own 2,.own 3,.own 4]),(1,.mp (mK s.ks)),(2,.row 4 (s.ns.map Nd.d)),(3,.row 1 (s.sm.map bD)),(4,.row 1 (s.fl.map bD)),(5,.cells [.ref 0 0]),(6,.cells [.d (iD i)]),(7,.cells [.d (iD k)]),(32,.cells [.d (iD xk),.d (iD xso),.d (.slc (ls.map sD)),.own 33]),(33,.row 1 (to.map iD))] ?_ ?_
 · unfold goK at hS
   by_cases c1 : i = -1
   · rw [if_pos (.inl c1)] at hS
     subst hS
     have g1 : (i != -1) = false:=by simpa using c1
     repeat' (first|(with_reducible apply zz1)|((with_reducible apply zz2);rfl;intro K' hK';simp only [WD,simprocAttr,g1,zh,zi];(repeat (constructor;focus (clear hK';intros;simp_all;done)));(try (apply hK';clear hK' K')))|((with_reducible apply zz3);rfl;all_goals (intro h;try exact absurd h (by decide))))
     refine ⟨rfl,?_⟩
     refine qa3 h0 ?_ ?_ ?_ <;> simp only [US,WD,simprocAttr]
   · have g1 : (i != -1) = true:=by simpa using c1
     by_cases c2 : p = -1
     · rw [if_pos (.inr c2)] at hS
       subst hS
       have g2 : (p != -1) = false:=by simpa using c2
       repeat' (first|(with_reducible apply zz1)|((with_reducible apply zz2);rfl;intro K' hK';simp only [WD,simprocAttr,g1,g2,zh,zi];(repeat (constructor;focus (clear hK';intros;simp_all;done)));(try (apply hK';clear hK' K')))|((with_reducible apply zz3);rfl;all_goals (intro h;try exact absurd h (by decide))))
       refine ⟨rfl,?_⟩
       refine qa3 h0 ?_ ?_ ?_ <;> simp only [US,WD,simprocAttr]
     · have g2 : (p != -1) = true:=by simpa using c2
       rw [if_neg (by rintro (h | h) <;> contradiction)] at hS
       have hr1 : inr A i:=hi.resolve_left c1
       have hp1:=(hp.resolve_left c1).resolve_left c2
       have a1:=hr1.1
       have a2:=hr1.2
       have a3:=hp1.1
       have a4:=hp1.2
       have hga:=qq3 a1 a2
       generalize gAt A i = X at *
       obtain ⟨yk,yso,yls,yto⟩:=X
       simp only [Nd.d] at hga
       simp only at a4 hS
       have hgp : (yto.map iD).getD p.toNat default = iD (yto.getD p.toNat 0):=by
        have : p.toNat < yto.length:=by omega
        simp [zm,this]
       rw [hS] at hgp
       repeat' (first|(with_reducible apply zz1)|((with_reducible apply zz2);rfl;intro K' hK';simp only [WD,simprocAttr,g1,g2,zh,zi];(repeat (constructor;focus (clear hK';intros;simp_all;done)));(try (apply hK';clear hK' K')))|((with_reducible apply zz3);rfl;all_goals (intro h;try exact absurd h (by decide))))
       (with_reducible refine qi1 ?_ ?_ ?_ ([]) (fun K' hK'=>?_)
        · kernel_rfl
        · rfl
        · rfl
        simp only [WD,simprocAttr,UG,hga,a1,a2,a3,a4,hgp,za,zn,zo]
        (try (apply hK';clear hK' K')))
       refine ⟨rfl,?_⟩
       refine qa3 h0 ?_ ?_ ?_ <;> simp only [US,WD,simprocAttr]
 refine zw0 ?_
 refine qh2 [(0,.d (iD p)),(1,.d (iD r)),(2,.d (iD u)),(3,.ref 6 0),(4,.ref 5 0),(5,.ref 7 0),(6,.ref 32 0),(10,.d (iD si)),(11,.d (iD ti))] [(0,.cells [.d (.slc (A.map Nd.d)),.d (.slc (B.map Nd.d)),.mp 1,.own 2,.own 3,.own 4]),(1,.mp (mK s.ks)),(2,.row 4 (s.ns.map Nd.d)),(3,.row 1 (s.sm.map bD)),(4,.row 1 (s.fl.map bD)),(5,.cells [.ref 0 0]),(6,.cells [.d (iD i)]),(7,.cells [.d (iD k)]),(32,.cells [.d (iD xk),.d (iD xso),.d (.slc (ls.map sD)),.own 33]),(33,.row 1 (to.map iD))] ?_ ?_
 · unfold goK at hT
   by_cases c1 : k = -1
   · rw [if_pos (.inl c1)] at hT
     subst hT
     have g1 : (k != -1) = false:=by simpa using c1
     repeat' (first|(with_reducible apply zz1)|((with_reducible apply zz2);rfl;intro K' hK';simp only [WD,simprocAttr,g1,zh,zi];(repeat (constructor;focus (clear hK';intros;simp_all;done)));(try (apply hK';clear hK' K')))|((with_reducible apply zz3);rfl;all_goals (intro h;try exact absurd h (by decide))))
     refine ⟨rfl,?_⟩
     refine qa3 h0 ?_ ?_ ?_ <;> simp only [US,WD,simprocAttr]
   · have g1 : (k != -1) = true:=by simpa using c1
     by_cases c2 : r = -1
     · rw [if_pos (.inr c2)] at hT
       subst hT
       have g2 : (r != -1) = false:=by simpa using c2
       repeat' (first|(with_reducible apply zz1)|((with_reducible apply zz2);rfl;intro K' hK';simp only [WD,simprocAttr,g1,g2,zh,zi];(repeat (constructor;focus (clear hK';intros;simp_all;done)));(try (apply hK';clear hK' K')))|((with_reducible apply zz3);rfl;all_goals (intro h;try exact absurd h (by decide))))
       refine ⟨rfl,?_⟩
       refine qa3 h0 ?_ ?_ ?_ <;> simp only [US,WD,simprocAttr]
     · have g2 : (r != -1) = true:=by simpa using c2
       rw [if_neg (by rintro (h | h) <;> contradiction)] at hT
       have hr1 : inr B k:=hk.resolve_left c1
       have hp1:=(hr.resolve_left c1).resolve_left c2
       have a1:=hr1.1
       have a2:=hr1.2
       have a3:=hp1.1
       have a4:=hp1.2
       have hga:=qq3 a1 a2
       generalize gAt B k = X at *
       obtain ⟨yk,yso,yls,yto⟩:=X
       simp only [Nd.d] at hga
       simp only at a4 hT
       have hgp : (yto.map iD).getD r.toNat default = iD (yto.getD r.toNat 0):=by
        have : r.toNat < yto.length:=by omega
        simp [zm,this]
       rw [hT] at hgp
       repeat' (first|(with_reducible apply zz1)|((with_reducible apply zz2);rfl;intro K' hK';simp only [WD,simprocAttr,g1,g2,zh,zi];(repeat (constructor;focus (clear hK';intros;simp_all;done)));(try (apply hK';clear hK' K')))|((with_reducible apply zz3);rfl;all_goals (intro h;try exact absurd h (by decide))))
       (with_reducible refine qi1 ?_ ?_ ?_ ([]) (fun K' hK'=>?_)
        · kernel_rfl
        · rfl
        · rfl
        simp only [WD,simprocAttr,UG,hga,a1,a2,a3,a4,hgp,za,zn,zo]
        (try (apply hK';clear hK' K')))
       refine ⟨rfl,?_⟩
       refine qa3 h0 ?_ ?_ ?_ <;> simp only [US,WD,simprocAttr]
 have hn1 : to.length + 1 ≤ 140737488355328:=by omega
 have hn2 : to.length + 1 ≤ maxLen:=by unfold maxLen;omega
 have hn3 : (to.length + 1) * 8 ≤ 140737488355328:=by omega
 have hap : to.map iD ++ [iD n] = (to ++ [n]).map iD:=by simp
 refine xp3 (by kernel_rfl) (fun _ _ _ h=>h) (fun K' hK' hP' hE'=>?_)
 show xq7 C _ 11 (Array.replicate 11 false) _ _ _
 refine yb2 (i:=0) rfl (by kernel_rfl) (by kernel_rfl) (by kernel_rfl) rfl rfl (by simp only [WD];rfl) rfl hE' ?_
 simp only [WD,simprocAttr]
 refine qv5 (i:=3) rfl (by kernel_rfl) (by kernel_rfl) (by kernel_rfl) rfl rfl hE' ?_
 simp only [WD,simprocAttr]
 refine qv5 (i:=4) rfl (by kernel_rfl) (by kernel_rfl) (by kernel_rfl) rfl rfl hE' ?_
 simp only [WD,simprocAttr]
 refine qv5 (i:=5) rfl (by kernel_rfl) (by kernel_rfl) (by kernel_rfl) rfl rfl hE' ?_
 simp only [WD,simprocAttr]
 refine qa5 (rs:=[1,2]) (by kernel_rfl) (by simp) (fun i hi=>?_)
 simp only [zb,ze,or_false] at hi
 rcases hi with rfl | rfl
 · refine ⟨_,rfl,rfl,?_⟩
   refine qa1 rfl rfl (by simp only [WD,simprocAttr];rfl) ?_ ?_
   · (repeat (refine zf ?_ ?_)) <;> first | trivial | (simp_all;done)
   simp only [WD,simprocAttr]
   refine qa5 (rs:=[2]) (by kernel_rfl) (by simp) (fun i hi=>?_)
   simp only [zb,ze,or_false] at hi
   obtain rfl:=hi
   refine ⟨_,rfl,rfl,?_⟩
   refine qa1 rfl rfl (by simp only [WD,simprocAttr,hap,hn1,hn2,hn3,za];rfl) ?_ ?_
   · (repeat (refine zf ?_ ?_)) <;> first | trivial | (simp_all;done)
   simp only [WD,simprocAttr,hap,hn1,hn2,hn3,za]
   refine qa5 (rs:=[6]) (by kernel_rfl) (by simp) (fun i hi=>?_)
   simp only [zb,ze,or_false] at hi
   obtain rfl:=hi
   refine ⟨_,rfl,rfl,?_⟩
   refine vm3 rfl rfl (by simp only [UA,WD,simprocAttr]) (hadd) ?_
   simp only [UM,WD,simprocAttr]
   refine qa5 (rs:=[7]) (by kernel_rfl) (by simp) (fun i hi=>?_)
   simp only [zb,ze,or_false] at hi
   obtain rfl:=hi
   refine ⟨_,rfl,rfl,?_⟩
   refine qa1 rfl rfl (by simp only [WD,simprocAttr,hap,hn1,hn2,hn3,za];rfl) ?_ ?_
   · (repeat (refine zf ?_ ?_)) <;> first | trivial | (simp_all;done)
   simp only [WD,simprocAttr,hap,hn1,hn2,hn3,za]
   refine qa5 (rs:=[8]) (by kernel_rfl) (by simp) (fun i hi=>?_)
   simp only [zb,ze,or_false] at hi
   obtain rfl:=hi
   refine ⟨_,rfl,rfl,?_⟩
   refine qa1 rfl rfl (by simp only [WD,simprocAttr,hap,hn1,hn2,hn3,za];rfl) ?_ ?_
   · (repeat (refine zf ?_ ?_)) <;> first | trivial | (simp_all;done)
   simp only [WD,simprocAttr,hap,hn1,hn2,hn3,za]
   refine qa5 (rs:=[9]) (by kernel_rfl) (by simp) (fun i hi=>?_)
   simp only [zb,ze,or_false] at hi
   obtain rfl:=hi
   refine ⟨_,rfl,rfl,?_⟩
   refine qa1 rfl rfl (by simp only [WD,simprocAttr,hap,hn1,hn2,hn3,za];rfl) ?_ ?_
   · (repeat (refine zf ?_ ?_)) <;> first | trivial | (simp_all;done)
   simp only [WD,simprocAttr,hap,hn1,hn2,hn3,za]
   refine qa5 (rs:=[10]) (by kernel_rfl) (by simp) (fun i hi=>?_)
   simp only [zb,ze,or_false] at hi
   obtain rfl:=hi
   refine ⟨_,rfl,rfl,?_⟩
   refine qa1 rfl rfl (by simp only [WD,simprocAttr,hap,hn1,hn2,hn3,za];rfl) ?_ ?_
   · (repeat (refine zf ?_ ?_)) <;> first | trivial | (simp_all;done)
   simp only [WD,simprocAttr,hap,hn1,hn2,hn3,za]
   refine qe3 (by kernel_rfl) ?_
   refine hK' _ _ ?_
   clear hK' hP' hE' K'
   repeat' (first|(with_reducible apply zz1)|((with_reducible apply zz2);rfl;intro K' hK';simp only [WD,simprocAttr];(repeat (constructor;focus (clear hK';intros;simp_all;done)));(try (apply hK';clear hK' K')))|((with_reducible apply zz3);rfl;all_goals (intro h;try exact absurd h (by decide))))
   simp only [qf8,qd5,qa2,qd6,US,WD,simprocAttr,h0]
 · refine ⟨_,rfl,rfl,?_⟩
   refine qa1 rfl rfl (by simp only [WD,simprocAttr];rfl) ?_ ?_
   · (repeat (refine zf ?_ ?_)) <;> first | trivial | (simp_all;done)
   simp only [WD,simprocAttr]
   refine qa5 (rs:=[1,6]) (by kernel_rfl) (by simp) (fun i hi=>?_)
   simp only [zb,ze,or_false] at hi
   rcases hi with rfl | rfl
   · refine ⟨_,rfl,rfl,?_⟩
     refine qa1 rfl rfl (by simp only [WD,simprocAttr];rfl) ?_ ?_
     · (repeat (refine zf ?_ ?_)) <;> first | trivial | (simp_all;done)
     simp only [WD,simprocAttr]
     refine qa5 (rs:=[6]) (by kernel_rfl) (by simp) (fun i hi=>?_)
     simp only [zb,ze,or_false] at hi
     obtain rfl:=hi
     refine ⟨_,rfl,rfl,?_⟩
     refine vm3 rfl rfl (by simp only [UA,WD,simprocAttr]) (hadd) ?_
     simp only [UM,WD,simprocAttr]
     refine qa5 (rs:=[7]) (by kernel_rfl) (by simp) (fun i hi=>?_)
     simp only [zb,ze,or_false] at hi
     obtain rfl:=hi
     refine ⟨_,rfl,rfl,?_⟩
     refine qa1 rfl rfl (by simp only [WD,simprocAttr,hap,hn1,hn2,hn3,za];rfl) ?_ ?_
     · (repeat (refine zf ?_ ?_)) <;> first | trivial | (simp_all;done)
     simp only [WD,simprocAttr,hap,hn1,hn2,hn3,za]
     refine qa5 (rs:=[8]) (by kernel_rfl) (by simp) (fun i hi=>?_)
     simp only [zb,ze,or_false] at hi
     obtain rfl:=hi
     refine ⟨_,rfl,rfl,?_⟩
     refine qa1 rfl rfl (by simp only [WD,simprocAttr,hap,hn1,hn2,hn3,za];rfl) ?_ ?_
     · (repeat (refine zf ?_ ?_)) <;> first | trivial | (simp_all;done)
     simp only [WD,simprocAttr,hap,hn1,hn2,hn3,za]
     refine qa5 (rs:=[9]) (by kernel_rfl) (by simp) (fun i hi=>?_)
     simp only [zb,ze,or_false] at hi
     obtain rfl:=hi
     refine ⟨_,rfl,rfl,?_⟩
     refine qa1 rfl rfl (by simp only [WD,simprocAttr,hap,hn1,hn2,hn3,za];rfl) ?_ ?_
     · (repeat (refine zf ?_ ?_)) <;> first | trivial | (simp_all;done)
     simp only [WD,simprocAttr,hap,hn1,hn2,hn3,za]
     refine qa5 (rs:=[10]) (by kernel_rfl) (by simp) (fun i hi=>?_)
     simp only [zb,ze,or_false] at hi
     obtain rfl:=hi
     refine ⟨_,rfl,rfl,?_⟩
     refine qa1 rfl rfl (by simp only [WD,simprocAttr,hap,hn1,hn2,hn3,za];rfl) ?_ ?_
     · (repeat (refine zf ?_ ?_)) <;> first | trivial | (simp_all;done)
     simp only [WD,simprocAttr,hap,hn1,hn2,hn3,za]
     refine qe3 (by kernel_rfl) ?_
     refine hK' _ _ ?_
     clear hK' hP' hE' K'
     repeat' (first|(with_reducible apply zz1)|((with_reducible apply zz2);rfl;intro K' hK';simp only [WD,simprocAttr];(repeat (constructor;focus (clear hK';intros;simp_all;done)));(try (apply hK';clear hK' K')))|((with_reducible apply zz3);rfl;all_goals (intro h;try exact absurd h (by decide))))
     simp only [qf8,qd5,qa2,qd6,US,WD,simprocAttr,h0]
   · refine ⟨_,rfl,rfl,?_⟩
     refine vm3 rfl rfl (by simp only [UA,WD,simprocAttr]) (hadd) ?_
     simp only [UM,WD,simprocAttr]
     refine qa5 (rs:=[1,7]) (by kernel_rfl) (by simp) (fun i hi=>?_)
     simp only [zb,ze,or_false] at hi
     rcases hi with rfl | rfl
     · refine ⟨_,rfl,rfl,?_⟩
       refine qa1 rfl rfl (by simp only [WD,simprocAttr];rfl) ?_ ?_
       · (repeat (refine zf ?_ ?_)) <;> first | trivial | (simp_all;done)
       simp only [WD,simprocAttr]
       refine qa5 (rs:=[7]) (by kernel_rfl) (by simp) (fun i hi=>?_)
       simp only [zb,ze,or_false] at hi
       obtain rfl:=hi
       refine ⟨_,rfl,rfl,?_⟩
       refine qa1 rfl rfl (by simp only [WD,simprocAttr,hap,hn1,hn2,hn3,za];rfl) ?_ ?_
       · (repeat (refine zf ?_ ?_)) <;> first | trivial | (simp_all;done)
       simp only [WD,simprocAttr,hap,hn1,hn2,hn3,za]
       refine qa5 (rs:=[8]) (by kernel_rfl) (by simp) (fun i hi=>?_)
       simp only [zb,ze,or_false] at hi
       obtain rfl:=hi
       refine ⟨_,rfl,rfl,?_⟩
       refine qa1 rfl rfl (by simp only [WD,simprocAttr,hap,hn1,hn2,hn3,za];rfl) ?_ ?_
       · (repeat (refine zf ?_ ?_)) <;> first | trivial | (simp_all;done)
       simp only [WD,simprocAttr,hap,hn1,hn2,hn3,za]
       refine qa5 (rs:=[9]) (by kernel_rfl) (by simp) (fun i hi=>?_)
       simp only [zb,ze,or_false] at hi
       obtain rfl:=hi
       refine ⟨_,rfl,rfl,?_⟩
       refine qa1 rfl rfl (by simp only [WD,simprocAttr,hap,hn1,hn2,hn3,za];rfl) ?_ ?_
       · (repeat (refine zf ?_ ?_)) <;> first | trivial | (simp_all;done)
       simp only [WD,simprocAttr,hap,hn1,hn2,hn3,za]
       refine qa5 (rs:=[10]) (by kernel_rfl) (by simp) (fun i hi=>?_)
       simp only [zb,ze,or_false] at hi
       obtain rfl:=hi
       refine ⟨_,rfl,rfl,?_⟩
       refine qa1 rfl rfl (by simp only [WD,simprocAttr,hap,hn1,hn2,hn3,za];rfl) ?_ ?_
       · (repeat (refine zf ?_ ?_)) <;> first | trivial | (simp_all;done)
       simp only [WD,simprocAttr,hap,hn1,hn2,hn3,za]
       refine qe3 (by kernel_rfl) ?_
       refine hK' _ _ ?_
       clear hK' hP' hE' K'
       repeat' (first|(with_reducible apply zz1)|((with_reducible apply zz2);rfl;intro K' hK';simp only [WD,simprocAttr];(repeat (constructor;focus (clear hK';intros;simp_all;done)));(try (apply hK';clear hK' K')))|((with_reducible apply zz3);rfl;all_goals (intro h;try exact absurd h (by decide))))
       simp only [qf8,qd5,qa2,qd6,US,WD,simprocAttr,h0]
     · refine ⟨_,rfl,rfl,?_⟩
       refine qa1 rfl rfl (by simp only [WD,simprocAttr];rfl) ?_ ?_
       · (repeat (refine zf ?_ ?_)) <;> first | trivial | (simp_all;done)
       simp only [WD,simprocAttr]
       refine qa5 (rs:=[1]) (by kernel_rfl) (by simp) (fun i hi=>?_)
       simp only [zb,ze,or_false] at hi
       obtain rfl:=hi
       refine ⟨_,rfl,rfl,?_⟩
       refine qa1 rfl rfl (by simp only [WD,simprocAttr,hap,hn1,hn2,hn3,za];rfl) ?_ ?_
       · (repeat (refine zf ?_ ?_)) <;> first | trivial | (simp_all;done)
       simp only [WD,simprocAttr,hap,hn1,hn2,hn3,za]
       refine qa5 (rs:=[8]) (by kernel_rfl) (by simp) (fun i hi=>?_)
       simp only [zb,ze,or_false] at hi
       obtain rfl:=hi
       refine ⟨_,rfl,rfl,?_⟩
       refine qa1 rfl rfl (by simp only [WD,simprocAttr,hap,hn1,hn2,hn3,za];rfl) ?_ ?_
       · (repeat (refine zf ?_ ?_)) <;> first | trivial | (simp_all;done)
       simp only [WD,simprocAttr,hap,hn1,hn2,hn3,za]
       refine qa5 (rs:=[9]) (by kernel_rfl) (by simp) (fun i hi=>?_)
       simp only [zb,ze,or_false] at hi
       obtain rfl:=hi
       refine ⟨_,rfl,rfl,?_⟩
       refine qa1 rfl rfl (by simp only [WD,simprocAttr,hap,hn1,hn2,hn3,za];rfl) ?_ ?_
       · (repeat (refine zf ?_ ?_)) <;> first | trivial | (simp_all;done)
       simp only [WD,simprocAttr,hap,hn1,hn2,hn3,za]
       refine qa5 (rs:=[10]) (by kernel_rfl) (by simp) (fun i hi=>?_)
       simp only [zb,ze,or_false] at hi
       obtain rfl:=hi
       refine ⟨_,rfl,rfl,?_⟩
       refine qa1 rfl rfl (by simp only [WD,simprocAttr,hap,hn1,hn2,hn3,za];rfl) ?_ ?_
       · (repeat (refine zf ?_ ?_)) <;> first | trivial | (simp_all;done)
       simp only [WD,simprocAttr,hap,hn1,hn2,hn3,za]
       refine qe3 (by kernel_rfl) ?_
       refine hK' _ _ ?_
       clear hK' hP' hE' K'
       repeat' (first|(with_reducible apply zz1)|((with_reducible apply zz2);rfl;intro K' hK';simp only [WD,simprocAttr];(repeat (constructor;focus (clear hK';intros;simp_all;done)));(try (apply hK';clear hK' K')))|((with_reducible apply zz3);rfl;all_goals (intro h;try exact absurd h (by decide))))
       simp only [qf8,qd5,qa2,qd6,US,WD,simprocAttr,h0]
def xx1 (A B : List Nd) (s : Bd) (i k : Int) (xk xso : Int) (to : List Int) : St :=
 [(0,.cells (bdC A B)),(1,.mp (mK s.ks)),(2,.row 4 (s.ns.map Nd.d)),(3,.row 1 (s.sm.map bD)),(4,.row 1 (s.fl.map bD)),(5,.cells [.ref 0 0]),(6,.cells [.d (iD i)]),(7,.cells [.d (iD k)]),(32,.cells [.d (iD xk),.d (iD xso),.nil,.own 33]),(33,.row 1 (to.map iD))]
set_option maxHeartbeats 16000000 in
set_option maxRecDepth 100000 in
theorem va4 (Γ : Gl) {A B : List Nd} (HA : Gd A) (HB : Gd B) (f : Nat) (ih : AddF Γ A B f) (i k p r u : Int) (s : Bd) (xk xso : Int) (to : List Int) (hw : WF A.length B.length s) (hi : i = -1 ∨ inr A i) (hk : k = -1 ∨ inr B k)
 (hp : i = -1 ∨ p = -1 ∨ (0 ≤ p ∧ p < ((gAt A i).to.length : Int))) (hr : k = -1 ∨ r = -1 ∨ (0 ≤ r ∧ r < ((gAt B k).to.length : Int))) (hq : okK A.length B.length ⟨goK A i p,goK B k r,u⟩) (hf : (A.length + 1) * (B.length + 1) * 2 + 1 ≤ s.ks.length + f) (ht : to.length ≤ 100) :
 SFn Tryd.prog Γ 85 [.d (iD p),.d (iD r),.d (iD u),.ref 6 0,.ref 5 0,.ref 7 0,.ref 32 0] (xx1 A B s i k xk xso to) (.tup [])
  (xx1 A B (qy8 A B f ⟨goK A i p,goK B k r,u⟩ s).2 i k xk xso (to ++ [(qy8 A B f ⟨goK A i p,goK B k r,u⟩ s).1])):=by
 have hadd:=ih _ s hw hq hf
 simp only at hadd
 generalize hS : goK A i p = si at *
 generalize hT : goK B k r = ti at *
 generalize qy8 A B f ⟨si,ti,u⟩ s = R at *
 obtain ⟨n,s'⟩:=R
 simp only [bdSt,bdC] at hadd
 simp only [xx1,bdC]
 refine qe0 (N:=56) Tryd.func85 rfl (by decide) rfl rfl (by simp) (fun C h0=>?_)
 simp only [vg9]
 refine zw0 ?_
 refine qh2 [(0,.d (iD p)),(1,.d (iD r)),(2,.d (iD u)),(3,.ref 6 0),(4,.ref 5 0),(5,.ref 7 0),(6,.ref 32 0),(10,.d (iD (-1))),(11,.d (iD (-1)))] [(0,.cells [.d (.slc (A.map Nd.d)),.d (.slc (B.map Nd.d)),.mp 1,.own 2,.own 3,.own 4]),(1,.mp (mK s.ks)),(2,.row 4 (s.ns.map Nd.d)),(3,.row 1 (s.sm.map bD)),(4,.row 1 (s.fl.map bD)),(5,.cells [.ref 0 0]),(6,.cells [.d (iD i)]),(7,.cells [.d (iD k)]),(32,.cells [.d (iD xk),.d (iD xso),.nil,.own 33]),(33,.row 1 (to.map iD))] ?_ ?_
 · repeat' (first|(with_reducible apply zz1)|((with_reducible apply zz2);rfl;intro K' hK';simp only [WD,simprocAttr];(repeat (constructor;focus (clear hK';intros;simp_all;done)));(try (apply hK';clear hK' K')))|((with_reducible apply zz3);rfl;all_goals (intro h;try exact absurd h (by decide))))
   refine ⟨rfl,?_⟩
   refine qa3 h0 ?_ ?_ ?_ <;> simp only [US,WD,simprocAttr]
 refine zw0 ?_
 refine qh2 [(0,.d (iD p)),(1,.d (iD r)),(2,.d (iD u)),(3,.ref 6 0),(4,.ref 5 0),(5,.ref 7 0),(6,.ref 32 0),(10,.d (iD si)),(11,.d (iD (-1)))] [(0,.cells [.d (.slc (A.map Nd.d)),.d (.slc (B.map Nd.d)),.mp 1,.own 2,.own 3,.own 4]),(1,.mp (mK s.ks)),(2,.row 4 (s.ns.map Nd.d)),(3,.row 1 (s.sm.map bD)),(4,.row 1 (s.fl.map bD)),(5,.cells [.ref 0 0]),(6,.cells [.d (iD i)]),(7,.cells [.d (iD k)]),(32,.cells [.d (iD xk),.d (iD xso),.nil,.own 33]),(33,.row 1 (to.map iD))] ?_ ?_
 · unfold goK at hS
   by_cases c1 : i = -1
   · rw [if_pos (.inl c1)] at hS
     subst hS
     have g1 : (i != -1) = false:=by simpa using c1
     repeat' (first|(with_reducible apply zz1)|((with_reducible apply zz2);rfl;intro K' hK';simp only [WD,simprocAttr,g1,zh,zi];(repeat (constructor;focus (clear hK';intros;simp_all;done)));(try (apply hK';clear hK' K')))|((with_reducible apply zz3);rfl;all_goals (intro h;try exact absurd h (by decide))))
     refine ⟨rfl,?_⟩
     refine qa3 h0 ?_ ?_ ?_ <;> simp only [US,WD,simprocAttr]
   · have g1 : (i != -1) = true:=by simpa using c1
     by_cases c2 : p = -1
     · rw [if_pos (.inr c2)] at hS
       subst hS
       have g2 : (p != -1) = false:=by simpa using c2
       repeat' (first|(with_reducible apply zz1)|((with_reducible apply zz2);rfl;intro K' hK';simp only [WD,simprocAttr,g1,g2,zh,zi];(repeat (constructor;focus (clear hK';intros;simp_all;done)));(try (apply hK';clear hK' K')))|((with_reducible apply zz3);rfl;all_goals (intro h;try exact absurd h (by decide))))
       refine ⟨rfl,?_⟩
       refine qa3 h0 ?_ ?_ ?_ <;> simp only [US,WD,simprocAttr]
     · have g2 : (p != -1) = true:=by simpa using c2
       rw [if_neg (by rintro (h | h) <;> contradiction)] at hS
       have hr1 : inr A i:=hi.resolve_left c1
       have hp1:=(hp.resolve_left c1).resolve_left c2
       have a1:=hr1.1
       have a2:=hr1.2
       have a3:=hp1.1
       have a4:=hp1.2
       have hga:=qq3 a1 a2
       generalize gAt A i = X at *
       obtain ⟨yk,yso,yls,yto⟩:=X
       simp only [Nd.d] at hga
       simp only at a4 hS
       have hgp : (yto.map iD).getD p.toNat default = iD (yto.getD p.toNat 0):=by
        have : p.toNat < yto.length:=by omega
        simp [zm,this]
       rw [hS] at hgp
       repeat' (first|(with_reducible apply zz1)|((with_reducible apply zz2);rfl;intro K' hK';simp only [WD,simprocAttr,g1,g2,zh,zi];(repeat (constructor;focus (clear hK';intros;simp_all;done)));(try (apply hK';clear hK' K')))|((with_reducible apply zz3);rfl;all_goals (intro h;try exact absurd h (by decide))))
       (with_reducible refine qi1 ?_ ?_ ?_ ([]) (fun K' hK'=>?_)
        · kernel_rfl
        · rfl
        · rfl
        simp only [WD,simprocAttr,UG,hga,a1,a2,a3,a4,hgp,za,zn,zo]
        (try (apply hK';clear hK' K')))
       refine ⟨rfl,?_⟩
       refine qa3 h0 ?_ ?_ ?_ <;> simp only [US,WD,simprocAttr]
 refine zw0 ?_
 refine qh2 [(0,.d (iD p)),(1,.d (iD r)),(2,.d (iD u)),(3,.ref 6 0),(4,.ref 5 0),(5,.ref 7 0),(6,.ref 32 0),(10,.d (iD si)),(11,.d (iD ti))] [(0,.cells [.d (.slc (A.map Nd.d)),.d (.slc (B.map Nd.d)),.mp 1,.own 2,.own 3,.own 4]),(1,.mp (mK s.ks)),(2,.row 4 (s.ns.map Nd.d)),(3,.row 1 (s.sm.map bD)),(4,.row 1 (s.fl.map bD)),(5,.cells [.ref 0 0]),(6,.cells [.d (iD i)]),(7,.cells [.d (iD k)]),(32,.cells [.d (iD xk),.d (iD xso),.nil,.own 33]),(33,.row 1 (to.map iD))] ?_ ?_
 · unfold goK at hT
   by_cases c1 : k = -1
   · rw [if_pos (.inl c1)] at hT
     subst hT
     have g1 : (k != -1) = false:=by simpa using c1
     repeat' (first|(with_reducible apply zz1)|((with_reducible apply zz2);rfl;intro K' hK';simp only [WD,simprocAttr,g1,zh,zi];(repeat (constructor;focus (clear hK';intros;simp_all;done)));(try (apply hK';clear hK' K')))|((with_reducible apply zz3);rfl;all_goals (intro h;try exact absurd h (by decide))))
     refine ⟨rfl,?_⟩
     refine qa3 h0 ?_ ?_ ?_ <;> simp only [US,WD,simprocAttr]
   · have g1 : (k != -1) = true:=by simpa using c1
     by_cases c2 : r = -1
     · rw [if_pos (.inr c2)] at hT
       subst hT
       have g2 : (r != -1) = false:=by simpa using c2
       repeat' (first|(with_reducible apply zz1)|((with_reducible apply zz2);rfl;intro K' hK';simp only [WD,simprocAttr,g1,g2,zh,zi];(repeat (constructor;focus (clear hK';intros;simp_all;done)));(try (apply hK';clear hK' K')))|((with_reducible apply zz3);rfl;all_goals (intro h;try exact absurd h (by decide))))
       refine ⟨rfl,?_⟩
       refine qa3 h0 ?_ ?_ ?_ <;> simp only [US,WD,simprocAttr]
     · have g2 : (r != -1) = true:=by simpa using c2
       rw [if_neg (by rintro (h | h) <;> contradiction)] at hT
       have hr1 : inr B k:=hk.resolve_left c1
       have hp1:=(hr.resolve_left c1).resolve_left c2
       have a1:=hr1.1
       have a2:=hr1.2
       have a3:=hp1.1
       have a4:=hp1.2
       have hga:=qq3 a1 a2
       generalize gAt B k = X at *
       obtain ⟨yk,yso,yls,yto⟩:=X
       simp only [Nd.d] at hga
       simp only at a4 hT
       have hgp : (yto.map iD).getD r.toNat default = iD (yto.getD r.toNat 0):=by
        have : r.toNat < yto.length:=by omega
        simp [zm,this]
       rw [hT] at hgp
       repeat' (first|(with_reducible apply zz1)|((with_reducible apply zz2);rfl;intro K' hK';simp only [WD,simprocAttr,g1,g2,zh,zi];(repeat (constructor;focus (clear hK';intros;simp_all;done)));(try (apply hK';clear hK' K')))|((with_reducible apply zz3);rfl;all_goals (intro h;try exact absurd h (by decide))))
       (with_reducible refine qi1 ?_ ?_ ?_ ([]) (fun K' hK'=>?_)
        · kernel_rfl
        · rfl
        · rfl
        simp only [WD,simprocAttr,UG,hga,a1,a2,a3,a4,hgp,za,zn,zo]
        (try (apply hK';clear hK' K')))
       refine ⟨rfl,?_⟩
       refine qa3 h0 ?_ ?_ ?_ <;> simp only [US,WD,simprocAttr]
 have hn1 : to.length + 1 ≤ 140737488355328:=by omega
 have hn2 : to.length + 1 ≤ maxLen:=by unfold maxLen;omega
 have hn3 : (to.length + 1) * 8 ≤ 140737488355328:=by omega
 have hap : to.map iD ++ [iD n] = (to ++ [n]).map iD:=by simp
 refine xp3 (by kernel_rfl) (fun _ _ _ h=>h) (fun K' hK' hP' hE'=>?_)
 show xq7 C _ 11 (Array.replicate 11 false) _ _ _
 refine yb2 (i:=0) rfl (by kernel_rfl) (by kernel_rfl) (by kernel_rfl) rfl rfl (by simp only [WD];rfl) rfl hE' ?_
 simp only [WD,simprocAttr]
 refine qv5 (i:=3) rfl (by kernel_rfl) (by kernel_rfl) (by kernel_rfl) rfl rfl hE' ?_
 simp only [WD,simprocAttr]
 refine qv5 (i:=4) rfl (by kernel_rfl) (by kernel_rfl) (by kernel_rfl) rfl rfl hE' ?_
 simp only [WD,simprocAttr]
 refine qv5 (i:=5) rfl (by kernel_rfl) (by kernel_rfl) (by kernel_rfl) rfl rfl hE' ?_
 simp only [WD,simprocAttr]
 refine qa5 (rs:=[1,2]) (by kernel_rfl) (by simp) (fun i hi=>?_)
 simp only [zb,ze,or_false] at hi
 rcases hi with rfl | rfl
 · refine ⟨_,rfl,rfl,?_⟩
   refine qa1 rfl rfl (by simp only [WD,simprocAttr];rfl) ?_ ?_
   · (repeat (refine zf ?_ ?_)) <;> first | trivial | (simp_all;done)
   simp only [WD,simprocAttr]
   refine qa5 (rs:=[2]) (by kernel_rfl) (by simp) (fun i hi=>?_)
   simp only [zb,ze,or_false] at hi
   obtain rfl:=hi
   refine ⟨_,rfl,rfl,?_⟩
   refine qa1 rfl rfl (by simp only [WD,simprocAttr,hap,hn1,hn2,hn3,za];rfl) ?_ ?_
   · (repeat (refine zf ?_ ?_)) <;> first | trivial | (simp_all;done)
   simp only [WD,simprocAttr,hap,hn1,hn2,hn3,za]
   refine qa5 (rs:=[6]) (by kernel_rfl) (by simp) (fun i hi=>?_)
   simp only [zb,ze,or_false] at hi
   obtain rfl:=hi
   refine ⟨_,rfl,rfl,?_⟩
   refine vm3 rfl rfl (by simp only [UA,WD,simprocAttr]) (hadd) ?_
   simp only [UM,WD,simprocAttr]
   refine qa5 (rs:=[7]) (by kernel_rfl) (by simp) (fun i hi=>?_)
   simp only [zb,ze,or_false] at hi
   obtain rfl:=hi
   refine ⟨_,rfl,rfl,?_⟩
   refine qa1 rfl rfl (by simp only [WD,simprocAttr,hap,hn1,hn2,hn3,za];rfl) ?_ ?_
   · (repeat (refine zf ?_ ?_)) <;> first | trivial | (simp_all;done)
   simp only [WD,simprocAttr,hap,hn1,hn2,hn3,za]
   refine qa5 (rs:=[8]) (by kernel_rfl) (by simp) (fun i hi=>?_)
   simp only [zb,ze,or_false] at hi
   obtain rfl:=hi
   refine ⟨_,rfl,rfl,?_⟩
   refine qa1 rfl rfl (by simp only [WD,simprocAttr,hap,hn1,hn2,hn3,za];rfl) ?_ ?_
   · (repeat (refine zf ?_ ?_)) <;> first | trivial | (simp_all;done)
   simp only [WD,simprocAttr,hap,hn1,hn2,hn3,za]
   refine qa5 (rs:=[9]) (by kernel_rfl) (by simp) (fun i hi=>?_)
   simp only [zb,ze,or_false] at hi
   obtain rfl:=hi
   refine ⟨_,rfl,rfl,?_⟩
   refine qa1 rfl rfl (by simp only [WD,simprocAttr,hap,hn1,hn2,hn3,za];rfl) ?_ ?_
   · (repeat (refine zf ?_ ?_)) <;> first | trivial | (simp_all;done)
   simp only [WD,simprocAttr,hap,hn1,hn2,hn3,za]
   refine qa5 (rs:=[10]) (by kernel_rfl) (by simp) (fun i hi=>?_)
   simp only [zb,ze,or_false] at hi
   obtain rfl:=hi
   refine ⟨_,rfl,rfl,?_⟩
   refine qa1 rfl rfl (by simp only [WD,simprocAttr,hap,hn1,hn2,hn3,za];rfl) ?_ ?_
   · (repeat (refine zf ?_ ?_)) <;> first | trivial | (simp_all;done)
   simp only [WD,simprocAttr,hap,hn1,hn2,hn3,za]
   refine qe3 (by kernel_rfl) ?_
   refine hK' _ _ ?_
   clear hK' hP' hE' K'
   repeat' (first|(with_reducible apply zz1)|((with_reducible apply zz2);rfl;intro K' hK';simp only [WD,simprocAttr];(repeat (constructor;focus (clear hK';intros;simp_all;done)));(try (apply hK';clear hK' K')))|((with_reducible apply zz3);rfl;all_goals (intro h;try exact absurd h (by decide))))
   simp only [qf8,qd5,qa2,qd6,US,WD,simprocAttr,h0]
 · refine ⟨_,rfl,rfl,?_⟩
   refine qa1 rfl rfl (by simp only [WD,simprocAttr];rfl) ?_ ?_
   · (repeat (refine zf ?_ ?_)) <;> first | trivial | (simp_all;done)
   simp only [WD,simprocAttr]
   refine qa5 (rs:=[1,6]) (by kernel_rfl) (by simp) (fun i hi=>?_)
   simp only [zb,ze,or_false] at hi
   rcases hi with rfl | rfl
   · refine ⟨_,rfl,rfl,?_⟩
     refine qa1 rfl rfl (by simp only [WD,simprocAttr];rfl) ?_ ?_
     · (repeat (refine zf ?_ ?_)) <;> first | trivial | (simp_all;done)
     simp only [WD,simprocAttr]
     refine qa5 (rs:=[6]) (by kernel_rfl) (by simp) (fun i hi=>?_)
     simp only [zb,ze,or_false] at hi
     obtain rfl:=hi
     refine ⟨_,rfl,rfl,?_⟩
     refine vm3 rfl rfl (by simp only [UA,WD,simprocAttr]) (hadd) ?_
     simp only [UM,WD,simprocAttr]
     refine qa5 (rs:=[7]) (by kernel_rfl) (by simp) (fun i hi=>?_)
     simp only [zb,ze,or_false] at hi
     obtain rfl:=hi
     refine ⟨_,rfl,rfl,?_⟩
     refine qa1 rfl rfl (by simp only [WD,simprocAttr,hap,hn1,hn2,hn3,za];rfl) ?_ ?_
     · (repeat (refine zf ?_ ?_)) <;> first | trivial | (simp_all;done)
     simp only [WD,simprocAttr,hap,hn1,hn2,hn3,za]
     refine qa5 (rs:=[8]) (by kernel_rfl) (by simp) (fun i hi=>?_)
     simp only [zb,ze,or_false] at hi
     obtain rfl:=hi
     refine ⟨_,rfl,rfl,?_⟩
     refine qa1 rfl rfl (by simp only [WD,simprocAttr,hap,hn1,hn2,hn3,za];rfl) ?_ ?_
     · (repeat (refine zf ?_ ?_)) <;> first | trivial | (simp_all;done)
     simp only [WD,simprocAttr,hap,hn1,hn2,hn3,za]
     refine qa5 (rs:=[9]) (by kernel_rfl) (by simp) (fun i hi=>?_)
     simp only [zb,ze,or_false] at hi
     obtain rfl:=hi
     refine ⟨_,rfl,rfl,?_⟩
     refine qa1 rfl rfl (by simp only [WD,simprocAttr,hap,hn1,hn2,hn3,za];rfl) ?_ ?_
     · (repeat (refine zf ?_ ?_)) <;> first | trivial | (simp_all;done)
     simp only [WD,simprocAttr,hap,hn1,hn2,hn3,za]
     refine qa5 (rs:=[10]) (by kernel_rfl) (by simp) (fun i hi=>?_)
     simp only [zb,ze,or_false] at hi
     obtain rfl:=hi
     refine ⟨_,rfl,rfl,?_⟩
     refine qa1 rfl rfl (by simp only [WD,simprocAttr,hap,hn1,hn2,hn3,za];rfl) ?_ ?_
     · (repeat (refine zf ?_ ?_)) <;> first | trivial | (simp_all;done)
     simp only [WD,simprocAttr,hap,hn1,hn2,hn3,za]
     refine qe3 (by kernel_rfl) ?_
     refine hK' _ _ ?_
     clear hK' hP' hE' K'
     repeat' (first|(with_reducible apply zz1)|((with_reducible apply zz2);rfl;intro K' hK';simp only [WD,simprocAttr];(repeat (constructor;focus (clear hK';intros;simp_all;done)));(try (apply hK';clear hK' K')))|((with_reducible apply zz3);rfl;all_goals (intro h;try exact absurd h (by decide))))
     simp only [qf8,qd5,qa2,qd6,US,WD,simprocAttr,h0]
   · refine ⟨_,rfl,rfl,?_⟩
     refine vm3 rfl rfl (by simp only [UA,WD,simprocAttr]) (hadd) ?_
     simp only [UM,WD,simprocAttr]
     refine qa5 (rs:=[1,7]) (by kernel_rfl) (by simp) (fun i hi=>?_)
     simp only [zb,ze,or_false] at hi
     rcases hi with rfl | rfl
     · refine ⟨_,rfl,rfl,?_⟩
       refine qa1 rfl rfl (by simp only [WD,simprocAttr];rfl) ?_ ?_
       · (repeat (refine zf ?_ ?_)) <;> first | trivial | (simp_all;done)
       simp only [WD,simprocAttr]
       refine qa5 (rs:=[7]) (by kernel_rfl) (by simp) (fun i hi=>?_)
       simp only [zb,ze,or_false] at hi
       obtain rfl:=hi
       refine ⟨_,rfl,rfl,?_⟩
       refine qa1 rfl rfl (by simp only [WD,simprocAttr,hap,hn1,hn2,hn3,za];rfl) ?_ ?_
       · (repeat (refine zf ?_ ?_)) <;> first | trivial | (simp_all;done)
       simp only [WD,simprocAttr,hap,hn1,hn2,hn3,za]
       refine qa5 (rs:=[8]) (by kernel_rfl) (by simp) (fun i hi=>?_)
       simp only [zb,ze,or_false] at hi
       obtain rfl:=hi
       refine ⟨_,rfl,rfl,?_⟩
       refine qa1 rfl rfl (by simp only [WD,simprocAttr,hap,hn1,hn2,hn3,za];rfl) ?_ ?_
       · (repeat (refine zf ?_ ?_)) <;> first | trivial | (simp_all;done)
       simp only [WD,simprocAttr,hap,hn1,hn2,hn3,za]
       refine qa5 (rs:=[9]) (by kernel_rfl) (by simp) (fun i hi=>?_)
       simp only [zb,ze,or_false] at hi
       obtain rfl:=hi
       refine ⟨_,rfl,rfl,?_⟩
       refine qa1 rfl rfl (by simp only [WD,simprocAttr,hap,hn1,hn2,hn3,za];rfl) ?_ ?_
       · (repeat (refine zf ?_ ?_)) <;> first | trivial | (simp_all;done)
       simp only [WD,simprocAttr,hap,hn1,hn2,hn3,za]
       refine qa5 (rs:=[10]) (by kernel_rfl) (by simp) (fun i hi=>?_)
       simp only [zb,ze,or_false] at hi
       obtain rfl:=hi
       refine ⟨_,rfl,rfl,?_⟩
       refine qa1 rfl rfl (by simp only [WD,simprocAttr,hap,hn1,hn2,hn3,za];rfl) ?_ ?_
       · (repeat (refine zf ?_ ?_)) <;> first | trivial | (simp_all;done)
       simp only [WD,simprocAttr,hap,hn1,hn2,hn3,za]
       refine qe3 (by kernel_rfl) ?_
       refine hK' _ _ ?_
       clear hK' hP' hE' K'
       repeat' (first|(with_reducible apply zz1)|((with_reducible apply zz2);rfl;intro K' hK';simp only [WD,simprocAttr];(repeat (constructor;focus (clear hK';intros;simp_all;done)));(try (apply hK';clear hK' K')))|((with_reducible apply zz3);rfl;all_goals (intro h;try exact absurd h (by decide))))
       simp only [qf8,qd5,qa2,qd6,US,WD,simprocAttr,h0]
     · refine ⟨_,rfl,rfl,?_⟩
       refine qa1 rfl rfl (by simp only [WD,simprocAttr];rfl) ?_ ?_
       · (repeat (refine zf ?_ ?_)) <;> first | trivial | (simp_all;done)
       simp only [WD,simprocAttr]
       refine qa5 (rs:=[1]) (by kernel_rfl) (by simp) (fun i hi=>?_)
       simp only [zb,ze,or_false] at hi
       obtain rfl:=hi
       refine ⟨_,rfl,rfl,?_⟩
       refine qa1 rfl rfl (by simp only [WD,simprocAttr,hap,hn1,hn2,hn3,za];rfl) ?_ ?_
       · (repeat (refine zf ?_ ?_)) <;> first | trivial | (simp_all;done)
       simp only [WD,simprocAttr,hap,hn1,hn2,hn3,za]
       refine qa5 (rs:=[8]) (by kernel_rfl) (by simp) (fun i hi=>?_)
       simp only [zb,ze,or_false] at hi
       obtain rfl:=hi
       refine ⟨_,rfl,rfl,?_⟩
       refine qa1 rfl rfl (by simp only [WD,simprocAttr,hap,hn1,hn2,hn3,za];rfl) ?_ ?_
       · (repeat (refine zf ?_ ?_)) <;> first | trivial | (simp_all;done)
       simp only [WD,simprocAttr,hap,hn1,hn2,hn3,za]
       refine qa5 (rs:=[9]) (by kernel_rfl) (by simp) (fun i hi=>?_)
       simp only [zb,ze,or_false] at hi
       obtain rfl:=hi
       refine ⟨_,rfl,rfl,?_⟩
       refine qa1 rfl rfl (by simp only [WD,simprocAttr,hap,hn1,hn2,hn3,za];rfl) ?_ ?_
       · (repeat (refine zf ?_ ?_)) <;> first | trivial | (simp_all;done)
       simp only [WD,simprocAttr,hap,hn1,hn2,hn3,za]
       refine qa5 (rs:=[10]) (by kernel_rfl) (by simp) (fun i hi=>?_)
       simp only [zb,ze,or_false] at hi
       obtain rfl:=hi
       refine ⟨_,rfl,rfl,?_⟩
       refine qa1 rfl rfl (by simp only [WD,simprocAttr,hap,hn1,hn2,hn3,za];rfl) ?_ ?_
       · (repeat (refine zf ?_ ?_)) <;> first | trivial | (simp_all;done)
       simp only [WD,simprocAttr,hap,hn1,hn2,hn3,za]
       refine qe3 (by kernel_rfl) ?_
       refine hK' _ _ ?_
       clear hK' hP' hE' K'
       repeat' (first|(with_reducible apply zz1)|((with_reducible apply zz2);rfl;intro K' hK';simp only [WD,simprocAttr];(repeat (constructor;focus (clear hK';intros;simp_all;done)));(try (apply hK';clear hK' K')))|((with_reducible apply zz3);rfl;all_goals (intro h;try exact absurd h (by decide))))
       simp only [qf8,qd5,qa2,qd6,US,WD,simprocAttr,h0]
end Go.Proofs.YtgecnlcbdbaneaaDoor
