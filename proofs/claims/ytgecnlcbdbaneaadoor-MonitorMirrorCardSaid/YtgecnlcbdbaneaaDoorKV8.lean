/- Two monitors, one at each end: plain. -/
import Derived.Test.YtgecnlcbdbaneaaDoorKV7
import Derived.Test.YtgecnlcbdbaneaaDoorHQ5
import Derived.Test.YtgecnlcbdbaneaaDoorKV2
import Derived.Test.YtgecnlcbdbaneaaDoorHC1
set_option linter.unusedVariables false
set_option linter.unusedSimpArgs false
namespace Go.Proofs.YtgecnlcbdbaneaaDoor
open Go.RowKit Go.Sw

def Mir (g h : List Nd) (a b : Int) : Prop := ∀ n,obs h n b = dT n (obs g n a)
section
variable {g h : List Nd} {a b : Int}
theorem mir_eq (M : Mir g h a b) (n : Nat) : (gAt h b).k = dKind (gAt g a).k ∧ (gAt h b).so = (gAt g a).so ∧ (gAt h b).ls = (gAt g a).ls ∧
 (gAt h b).to.map (obs h n) = (if (gAt g a).k = 4 ∨ (gAt g a).k = 5 then ((gAt g a).to.map (obs g n)).take 1 ++ (((gAt g a).to.map (obs g n)).drop 1).map (dT n) else ((gAt g a).to.map (obs g n)).map (dT n)):=by
 have:=M (n + 1)
 rw [obs,obs,dT] at this
 simpa using this
theorem mir_len (M : Mir g h a b) : (gAt h b).to.length = (gAt g a).to.length:=by
 have:=congrArg List.length (mir_eq M 0).2.2.2
 rw [List.length_map] at this
 rw [this]
 split
 · cases (gAt g a).to <;> simp
 · simp
theorem getD_map {α β : Type} {l : List α} (f : α → β) {i : Nat} (hi : i < l.length) (d : α) (e : β) : (l.map f).getD i e = f (l.getD i d):=by
 simp [List.getD,hi]
theorem mir_kid (M : Mir g h a b) {i : Nat} (hi : i < (gAt g a).to.length) (hn : ¬ (((gAt g a).k = 4 ∨ (gAt g a).k = 5) ∧ i = 0)) : Mir g h ((gAt g a).to.getD i 0) ((gAt h b).to.getD i 0):=fun n=>by
 have hl:=mir_len M
 have e:=(mir_eq M n).2.2.2
 have e1:=getD_map (obs h n) (l:=(gAt h b).to) (i:=i) (by omega) 0 Tr.cut
 rw [← e1,e]
 have e2 : ((gAt g a).to.map (obs g n)).getD i Tr.cut = obs g n ((gAt g a).to.getD i 0):=getD_map _ hi 0 Tr.cut
 split
 · rename_i h45
   have hi0 : i ≠ 0:=fun e=>hn ⟨h45,e⟩
   rw [← e2]
   generalize (gAt g a).to.map (obs g n) = L
   cases L with
   | nil=>simp [dT_cut]
   | cons x L =>
    obtain ⟨j,rfl⟩ : ∃ j,i = j + 1:=⟨i - 1,by omega⟩
    simp only [List.take_succ_cons,List.take_zero,List.drop_succ_cons,List.drop_zero,List.cons_append,List.nil_append,List.getD_cons_succ]
    exact kid_dT n L j
 · rw [← e2]
   exact kid_dT n _ i
theorem mir_car (M : Mir g h a b) (h45 : (gAt g a).k = 4 ∨ (gAt g a).k = 5) (hi : 0 < (gAt g a).to.length) (n : Nat) : obs h n ((gAt h b).to.getD 0 0) = obs g n ((gAt g a).to.getD 0 0):=by
 have hl:=mir_len M
 have e:=(mir_eq M n).2.2.2
 rw [if_pos h45] at e
 have e1:=getD_map (obs h n) (l:=(gAt h b).to) (i:=0) (by omega) 0 Tr.cut
 have e2 : ((gAt g a).to.map (obs g n)).getD 0 Tr.cut = obs g n ((gAt g a).to.getD 0 0):=getD_map _ hi 0 Tr.cut
 rw [← e1,e, ← e2]
 cases hL : (gAt g a).to.map (obs g n) with
 | nil =>
  have:=congrArg List.length hL
  rw [List.length_map,List.length_nil] at this
  omega
 | cons x L=>rfl
def kdOK (kd : Int) : Prop:=kd = 2 ∨ kd = 3 ∨ kd = 4 ∨ kd = 5 ∨ kd = 6 ∨ kd = 7
theorem kd_dual {kd : Int} (hk : kdOK kd) : kdOK (dKind kd):=by
 unfold kdOK at *
 rcases hk with rfl | rfl | rfl | rfl | rfl | rfl <;> decide
theorem mine_dual {kd : Int} (hk : kdOK kd) : mineB (dKind kd) = !mineB kd:=by
 unfold kdOK at hk
 rcases hk with rfl | rfl | rfl | rfl | rfl | rfl <;> decide
theorem next_mir (Hg : Gd g) (Hh : Gd h) (lg : g.length ≤ 199) (lh : h.length ≤ 199) (ha : 0 ≤ a ∧ a < (g.length : Int)) (hb : 0 ≤ b ∧ b < (h.length : Int)) (M : Mir g h a b) {kd : Int} (hk : kdOK kd) (vs : Int) {c : Tp} (hc : kd = 4 ∨ kd = 5 → tCheck c = 0) (lab : ByteArray) :
 (0 ≤ nxtM g (gAt g a) kd vs c lab ↔ 0 ≤ nxtM h (gAt h b) (dKind kd) vs c lab) ∧ (0 ≤ nxtM g (gAt g a) kd vs c lab →
  Mir g h (nxtM g (gAt g a) kd vs c lab) (nxtM h (gAt h b) (dKind kd) vs c lab) ∧ nxtM g (gAt g a) kd vs c lab < (g.length : Int) ∧ nxtM h (gAt h b) (dKind kd) vs c lab < (h.length : Int)):=by
 have hgm:=gAt_mem ha.1 ha.2
 have hhm:=gAt_mem hb.1 hb.2
 have hsh:=(Hg.ok _ hgm).sh
 have hr:=(Hg.ok _ hgm).ok.r
 have hr2:=(Hh.ok _ hhm).ok.r
 have hS:=Hg.sh _ hgm
 obtain ⟨e1,e2,e3, -⟩:=mir_eq M 0
 have hl:=mir_len M
 have rng : ∀ i,i < (gAt g a).to.length → 0 ≤ (gAt g a).to.getD i 0 ∧ (gAt g a).to.getD i 0 < (g.length : Int):=fun i hi=>hr _ (getD_inD hi)
 have rng2 : ∀ i,i < (gAt g a).to.length → 0 ≤ (gAt h b).to.getD i 0 ∧ (gAt h b).to.getD i 0 < (h.length : Int):=fun i hi=>hr2 _ (getD_inD (by omega))
 have one : ∀ i,i < (gAt g a).to.length → ¬ (((gAt g a).k = 4 ∨ (gAt g a).k = 5) ∧ i = 0) → (0 ≤ (gAt g a).to.getD i 0 ↔ 0 ≤ (gAt h b).to.getD i 0) ∧ (0 ≤ (gAt g a).to.getD i 0 → Mir g h ((gAt g a).to.getD i 0) ((gAt h b).to.getD i 0) ∧ (gAt g a).to.getD i 0 < (g.length : Int) ∧ (gAt h b).to.getD i 0 < (h.length : Int)):=fun i hi hn =>
  ⟨⟨fun _=>(rng2 i hi).1,fun _=>(rng i hi).1⟩,fun _=>⟨mir_kid M hi hn,(rng i hi).2,(rng2 i hi).2⟩⟩
 have no : ((0 : Int) ≤ -1 ↔ (0 : Int) ≤ -1) ∧ ((0 : Int) ≤ -1 → Mir g h (-1) (-1) ∧ (-1 : Int) < (g.length : Int) ∧ (-1 : Int) < (h.length : Int)):=⟨Iff.rfl,fun h=>absurd h (by decide)⟩
 have hcar : ((gAt g a).k = 4 ∨ (gAt g a).k = 5) → tCheck c = 0 → carP h (gAt h b) c = carP g (gAt g a) c:=fun h45 hc0=>by
  have h2:=hsh.two h45
  have r1:=rng 0 (by omega)
  have r2:=rng2 0 (by omega)
  unfold carP
  rw [Bool.eq_iff_iff,sub_iff (ofP_gd hc0) (from_gd Hh lh r2.1 r2.2),sub_iff (ofP_gd hc0) (from_gd Hg lg r1.1 r1.2)]
  have he : ∀ n,obs (fromP h ((gAt h b).to.getD 0 0)) n 0 = obs (fromP g ((gAt g a).to.getD 0 0)) n 0:=fun n=>by
   rw [from_obs0 Hh r2.1 r2.2,from_obs0 Hg r1.1 r1.2,mir_car M h45 (by omega)]
  exact ⟨fun k n=>by rw [← he];exact k n,fun k n=>by rw [he];exact k n⟩
 unfold nxtM
 by_cases hkk : (gAt g a).k = kd
 rotate_left
 · have : (gAt h b).k ≠ dKind kd:=fun e=>hkk (dKind_inj (by rw [← e1,e]))
   rw [if_neg hkk,if_neg this]
   exact no
 have hkk2 : (gAt h b).k = dKind kd:=by rw [e1,hkk]
 rw [if_pos hkk,if_pos hkk2,e2,e3]
 by_cases h23 : kd = 2 ∨ kd = 3
 · have h23' : dKind kd = 2 ∨ dKind kd = 3:=by rcases h23 with rfl | rfl <;> decide
   rw [if_pos h23,if_pos h23']
   split
   · have:=hsh.one (by rw [hkk];exact h23)
     exact one 0 (by omega) (by rw [hkk];omega)
   · exact no
 have h23' : ¬ (dKind kd = 2 ∨ dKind kd = 3):=fun e=>h23 (by
  unfold kdOK at hk
  rcases hk with rfl | rfl | rfl | rfl | rfl | rfl <;> simp_all [dKind])
 rw [if_neg h23,if_neg h23']
 by_cases h45 : kd = 4 ∨ kd = 5
 · have h45' : dKind kd = 4 ∨ dKind kd = 5:=by rcases h45 with rfl | rfl <;> decide
   rw [if_pos h45,if_pos h45',hcar (by rw [hkk];exact h45) (hc h45)]
   split
   · have:=hsh.two (by rw [hkk];exact h45)
     exact one 1 (by omega) (fun h=>absurd h.2 (by decide))
   · exact no
 have h45' : ¬ (dKind kd = 4 ∨ dKind kd = 5):=fun e=>h45 (by
  unfold kdOK at hk
  rcases hk with rfl | rfl | rfl | rfl | rfl | rfl <;> simp_all [dKind])
 rw [if_neg h45,if_neg h45']
 have hll:=(shN.lab hS (by rw [hkk];unfold kdOK at hk;omega)).1
 have hx:=ix_rng (gAt g a).ls lab
 split
 · exact one _ (by omega) (by rw [hkk];omega)
 · exact no
end
structure MirM (g h : List Nd) (j : Nat) (m n : Mo) : Prop where
 ra : 0 ≤ m.a ∧ m.a < (g.length : Int)
 rb : 0 ≤ n.a ∧ n.a < (h.length : Int)
 d0 : 0 ≤ m.dn ∧ m.dn ≤ (j : Int)
 de : n.dn = m.dn
 v : (m.vd = 0 ∧ n.vd = 0 ∧ Mir g h m.a n.a) ∨ (m.vd = 1 ∧ n.vd = 2) ∨ (m.vd = 2 ∧ n.vd = 1)
theorem MirM.ok {g h : List Nd} {j : Nat} {m n : Mo} (M : MirM g h j m n) (hj : (j : Int) < 4611686018427387904) : MoOK g m ∧ MoOK h n :=
 ⟨⟨M.ra,by have:=M.d0;omega⟩,⟨M.rb,by have:=M.d0;have:=M.de;omega⟩⟩
theorem take_mir {c : Tp} {g h : List Nd} (Hg : Gd g) (Hh : Gd h) (lg : g.length ≤ 199) (lh : h.length ≤ 199) {j : Nat} {m n : Mo} (M : MirM g h j m n) {r kd : Int} (hr : r = 0 → kdOK kd ∧ (kd = 4 ∨ kd = 5 → tCheck c = 0)) (vs : Int) (lab : ByteArray) :
 MirM g h (j + 1) (takeS g m r kd vs c lab) (takeS h n r (dKind kd) vs c lab):=by
 have up : MirM g h (j + 1) m n:=⟨M.ra,M.rb,by have:=M.d0;omega,M.de,M.v⟩
 unfold takeS
 by_cases hr0 : r = 0
 rotate_left
 · rw [if_pos hr0,if_pos hr0];exact up
 subst hr0
 have e0 : ¬ ((0 : Int) ≠ 0):=by decide
 rw [if_neg e0,if_neg e0]
 obtain ⟨hk,hc⟩:=hr rfl
 rcases M.v with ⟨v1,v2,Mm⟩ | ⟨v1,v2⟩ | ⟨v1,v2⟩
 rotate_left
 · rw [if_neg (by omega),if_neg (by omega)];exact up
 · rw [if_neg (by omega),if_neg (by omega)];exact up
 rw [if_pos v1,if_pos v2]
 have N:=next_mir Hg Hh lg lh M.ra M.rb Mm hk vs hc lab
 unfold lookS
 have d0:=M.d0
 have de:=M.de
 by_cases hn : 0 ≤ nxtM g (gAt g m.a) kd vs c lab
 · rw [if_pos hn,if_pos (N.1.1 hn)]
   obtain ⟨n1,n2,n3⟩:=N.2 hn
   exact ⟨⟨hn,n2⟩,⟨N.1.1 hn,n3⟩,by simp only;omega,by simp only;omega,.inl ⟨rfl,rfl,n1⟩⟩
 · rw [if_neg hn,if_neg (fun e=>hn (N.1.2 e)),mine_dual hk]
   refine ⟨M.ra,M.rb,by simp only;omega,de,?_⟩
   cases mineB kd with
   | true=>exact .inr (.inl ⟨rfl,rfl⟩)
   | false=>exact .inr (.inr ⟨rfl,rfl⟩)
theorem state_mir {g h : List Nd} {j : Nat} {m n : Mo} (M : MirM g h j m n) : (n.vd == 0 && (gAt h n.a).k == 1) = (m.vd == 0 && (gAt g m.a).k == 1):=by
 rcases M.v with ⟨v1,v2,Mm⟩ | ⟨v1,v2⟩ | ⟨v1,v2⟩
 · rw [v1,v2,(mir_eq Mm 0).1]
   have : (dKind (gAt g m.a).k == 1) = ((gAt g m.a).k == 1):=by
    rw [Bool.eq_iff_iff,beq_iff_eq,beq_iff_eq]
    unfold dKind
    repeat' split
    all_goals omega
   rw [this]
 · rw [v1,v2];rfl
 · rw [v1,v2];rfl
end Go.Proofs.YtgecnlcbdbaneaaDoor
/- monitor.event at both ends. -/
-- TYPESE
namespace Go.Proofs.YtgecnlcbdbaneaaDoor
open Go.RowKit Go.Sw

set_option maxHeartbeats 8000000 in
set_option maxRecDepth 100000 in
theorem event_d (Γ : Gl) (kd vs vn : Int) (vS : ByteArray) (c : Tp) (lab : ByteArray) (hk : ¬ kdOK kd) : EvFn Γ kd vs vn vS c lab 1:=by
 obtain ⟨k,so,nm,ls,l⟩:=c
 unfold EvFn evD
 unfold kdOK at hk
 have g2 : (kd == 2) = false:=by simp;omega
 have g3 : (kd == 3) = false:=by simp;omega
 have g4 : (kd == 4) = false:=by simp;omega
 have g5 : (kd == 5) = false:=by simp;omega
 have g6 : (kd == 6) = false:=by simp;omega
 have g7 : (kd == 7) = false:=by simp;omega
 refine fn_of_swp (N:=92) Tryd.func69 rfl (by decide) rfl rfl (by simp) (fun C h0=>?_)
 simp only [argE]
 repeat' (first|(with_reducible apply zz1)|((with_reducible refine zz4 ?_ ?_);rfl)|((with_reducible refine zz2 ?_ (fun K' hK'=>?_));rfl;simp only [WE,simprocAttr,g2,g3,g4,g5,g6,g7];(repeat (refine And.intro ?_ ?_;focus (clear hK';intros;simp_all;done)));(try (refine hK' _ _ ?_;clear hK' K')))|((with_reducible refine zz3 ?_ ?_);rfl;refine ⟨_,rfl,fun h=>?_,fun h=>?_⟩ <;> try exact absurd h (by decide)))
 simp only [Kret,retL,retOne,oneV,WE,simprocAttr]
theorem ev_both (Γ : Gl) {f : ByteArray → Bool} (hv : VSok Γ f) (kd vs vn : Int) (vS : ByteArray) {c : Tp} (hc : szT c) (lab : ByteArray) :
 ∃ r,EvFn Γ kd vs vn vS c lab r ∧ EvFn Γ (dKind kd) vs vn vS c lab r ∧ (r = 0 → kdOK kd ∧ (kd = 4 ∨ kd = 5 → tCheck c = 0)):=by
 obtain ⟨k,so,nm,ls,l⟩:=c
 obtain ⟨⟨-,z1, -,z2⟩, -⟩:=hc
 by_cases h : kdOK kd
 rotate_left
 · have h' : ¬ kdOK (dKind kd):=fun e=>h (by have:=kd_dual e;rwa [dKind_inv] at this)
   exact ⟨1,event_d Γ kd vs vn vS _ lab h,event_d Γ _ vs vn vS _ lab h',fun e=>by cases e⟩
 by_cases h23 : kd = 2 ∨ kd = 3
 · have h23' : dKind kd = 2 ∨ dKind kd = 3:=by rcases h23 with rfl | rfl <;> decide
   exact ⟨_,event_a Γ hv vs vn vS k so nm ls l lab z1 z2 kd h23,event_a Γ hv vs vn vS k so nm ls l lab z1 z2 _ h23',fun _=>⟨h,fun e=>by omega⟩⟩
 by_cases h45 : kd = 4 ∨ kd = 5
 · have h45' : dKind kd = 4 ∨ dKind kd = 5:=by rcases h45 with rfl | rfl <;> decide
   refine ⟨_,event_b Γ hv vs vn vS k so nm ls l lab z1 z2 kd h45,event_b Γ hv vs vn vS k so nm ls l lab z1 z2 _ h45',fun e=>⟨h,fun _=>?_⟩⟩
   by_cases hz : tCheck (.mk k so nm ls l) = 0
   · exact hz
   · rw [if_pos hz] at e;exact e
 · have h67 : kd = 6 ∨ kd = 7:=by unfold kdOK at h;omega
   have h67' : dKind kd = 6 ∨ dKind kd = 7:=by rcases h67 with rfl | rfl <;> decide
   exact ⟨_,event_c Γ hv vs vn vS k so nm ls l lab z1 z2 kd h67,event_c Γ hv vs vn vS k so nm ls l lab z1 z2 _ h67',fun _=>⟨h,fun e=>by omega⟩⟩
end Go.Proofs.YtgecnlcbdbaneaaDoor
/- comply.stuck: there is none just if they get on; ComplyBelow in plain words. -/
namespace Go.Proofs.YtgecnlcbdbaneaaDoor
open Go.RowKit Go.Sw

end Go.Proofs.YtgecnlcbdbaneaaDoor
/- Both ends change places: plain. -/
namespace Go.Proofs.YtgecnlcbdbaneaaDoor
open Go.RowKit Go.Sw

abbrev Que:=List (Pc × Int)
def hasE (p : Pc) (qu : Que) : Bool:=qu.any fun q=>decide (p = q.1)
def addE (d : Int) (qu : Que) (s : ByteArray × Pc) : Que:=if hasE s.2 qu = true then qu else qu ++ [(s.2,d + 1)]
theorem hasE_mem {p : Pc} {qu : Que} : hasE p qu = true ↔ p ∈ qu.map (·.1):=by
 unfold hasE
 rw [List.any_eq_true]
 simp only [decide_eq_true_eq,List.mem_map]
 exact ⟨fun ⟨q,h,e⟩=>⟨q,h,e.symm⟩,fun ⟨q,h,e⟩=>⟨q,h,e.symm⟩⟩
structure QE (n m : Nat) (qu : Que) : Prop where
 nd : (qu.map (·.1)).Nodup
 r : ∀ q ∈ qu,(0 ≤ q.1.a ∧ q.1.a < (n : Int)) ∧ 0 ≤ q.1.b ∧ q.1.b < (m : Int)
 p : ∀ (i : Nat) (q : Pc × Int),qu[i]? = some q → 1 ≤ q.2 ∧ q.2 ≤ (i : Int) + 1
theorem QE.add {n m : Nat} {qu : Que} (h : QE n m qu) {d : Int} {k : Nat} (hd : 1 ≤ d ∧ d ≤ (k : Int) + 1) (hk : k < qu.length) {s : ByteArray × Pc} (hs : (0 ≤ s.2.a ∧ s.2.a < (n : Int)) ∧ 0 ≤ s.2.b ∧ s.2.b < (m : Int)) : QE n m (addE d qu s):=by
 unfold addE
 split
 · exact h
 · rename_i hn
   refine ⟨?_,fun q hq=>?_,fun i q hq=>?_⟩
   · rw [List.map_append,List.nodup_append]
     refine ⟨h.nd,by simp,fun a ha b hb e=>?_⟩
     rw [show b = s.2 by simpa using hb] at e
     exact hn (hasE_mem.2 (e ▸ ha))
   · rcases List.mem_append.1 hq with hq | hq
     · exact h.r q hq
     · rw [show q = (s.2,d + 1) by simpa using hq];exact hs
   · by_cases hi : i < qu.length
     · rw [List.getElem?_append_left hi] at hq
       exact h.p i q hq
     · rw [List.getElem?_append_right (by omega)] at hq
       cases hj : i - qu.length with
       | zero =>
        rw [hj] at hq
        rw [show q = (s.2,d + 1) by simpa using hq.symm]
        simp only
        omega
       | succ j=>rw [hj] at hq;simp at hq
theorem addE_len (d : Int) (qu : Que) (s : ByteArray × Pc) : qu.length ≤ (addE d qu s).length ∧ ∀ j,j < qu.length → (addE d qu s)[j]? = qu[j]? := by
 unfold addE
 split
 · exact ⟨Nat.le_refl _,fun _ _=>rfl⟩
 · exact ⟨by simp,fun j hj=>List.getElem?_append_left hj⟩
theorem QE.adds {n m : Nat} {d : Int} {k : Nat} (hd : 1 ≤ d ∧ d ≤ (k : Int) + 1) : ∀ {l : List (ByteArray × Pc)} {qu : Que},QE n m qu → k < qu.length → (∀ s ∈ l,(0 ≤ s.2.a ∧ s.2.a < (n : Int)) ∧ 0 ≤ s.2.b ∧ s.2.b < (m : Int)) → QE n m (l.foldl (addE d) qu)
 | [],_,h,_,_=>h
 | s :: l,qu,h,hk,hs=>by
  have h1 : QE n m (addE d qu s):=h.add hd hk (hs s (by simp))
  have h2 : k < (addE d qu s).length:=by have:=(addE_len d qu s).1;omega
  have h3:=QE.adds (l:=l) (qu:=addE d qu s) hd h1 h2 fun t ht=>hs t (by simp [ht])
  exact h3
theorem QE.len {n m : Nat} {qu : Que} (h : QE n m qu) : qu.length ≤ n * m:=by
 have hq : QC n m (qu.map fun q=>(q.1,[])):=⟨by rw [List.map_map];exact h.nd,fun q hq=>by
  obtain ⟨r,hr,rfl⟩:=List.mem_map.1 hq
  exact h.r r hr,fun i q hq=>by
  rw [List.getElem?_map] at hq
  cases hx : qu[i]? with
  | none=>rw [hx] at hq;cases hq
  | some r=>rw [hx] at hq;cases hq;simp⟩
 have:=hq.len
 simpa using this
end Go.Proofs.YtgecnlcbdbaneaaDoor
