/- monitor.event at both ends. -/
import Derived.Test.YtgecnlcbdbaneaaDoorKV2
import Derived.Test.YtgecnlcbdbaneaaDoorKV7
import Derived.Test.YtgecnlcbdbaneaaDoorKZ2
import Derived.Test.YtgecnlcbdbaneaaDoorHC2
import Derived.Test.YtgecnlcbdbaneaaDoorKZ1
import Derived.Test.YtgecnlcbdbaneaaDoorH16
import Derived.Test.YtgecnlcbdbaneaaDoorH17
import Derived.Test.YtgecnlcbdbaneaaDoorSwD
-- TYPESE
set_option linter.unusedVariables false
set_option linter.unusedSimpArgs false
namespace Go.Proofs.YtgecnlcbdbaneaaDoor
open Go.RowKit Go.Sw

end Go.Proofs.YtgecnlcbdbaneaaDoor
/- Events that are, and are fine. -/
-- TYPESE
namespace Go.Proofs.YtgecnlcbdbaneaaDoor
open Go.RowKit Go.Sw

theorem ev_pass (Γ : Gl) {f : ByteArray → Bool} (hv : VSok Γ f) (hf : f noB = true) {kd so : Int} (hk : kd = 2 ∨ kd = 3) (h1 : 1 ≤ so) (h3 : so ≤ 3) : EvFn Γ kd so 0 noB tp0 noB 0:=by
 have:=event_a Γ hv so 0 noB 0 0 noB [] [] noB (by simp) (by simp) kd hk
 have e : vchk f so 0 noB = 0:=by
  have e1 : emB noB = true:=by decide +kernel
  have e2 : noB.size = 0:=rfl
  rcases (show so = 1 ∨ so = 2 ∨ so = 3 by omega) with rfl | rfl | rfl
  · unfold vchk;rw [if_pos rfl,if_pos e1]
  · unfold vchk;rw [if_neg (by decide),if_pos rfl,if_pos e1,if_pos rfl]
  · unfold vchk;rw [if_neg (by decide),if_neg (by decide),if_pos rfl,if_pos rfl,if_neg (by rw [e2];decide),if_pos hf]
 rw [e,if_neg (by decide),if_pos (by decide +kernel)] at this
 exact this
theorem ev_carry (Γ : Gl) {f : ByteArray → Bool} (hv : VSok Γ f) {kd : Int} (hk : kd = 4 ∨ kd = 5) {c : Tp} (hc : tCheck c = 0) : EvFn Γ kd 0 0 noB c noB 0:=by
 have ho:=(check_all hc).1
 obtain ⟨k,so,nm,ls,l⟩:=c
 have hz : ls.length ≤ 6 ∧ l.length ≤ 6:=by
  cases ho with
  | nil=>simp
  | pass=>simp
  | give=>simp
  | pick _ _ _ _ hl hn=>exact ⟨labels_len hl,by have:=labels_len hl;omega⟩
  | bind=>simp
  | var=>simp
 have:=event_b Γ hv 0 0 noB k so nm ls l noB (by omega) (by omega) kd hk
 rw [if_neg (by simpa using hc),if_pos (by decide +kernel)] at this
 exact this
theorem ev_label (Γ : Gl) {f : ByteArray → Bool} (hv : VSok Γ f) {kd : Int} (hk : kd = 6 ∨ kd = 7) (lab : ByteArray) : EvFn Γ kd 0 0 noB tp0 lab 0:=by
 have:=event_c Γ hv 0 0 noB 0 0 noB [] [] lab (by simp) (by simp) kd hk
 rw [if_neg (by decide),if_pos (by decide +kernel)] at this
 exact this
theorem take_fine (Γ : Gl) {g : List Nd} (Hg : Gd g) (hl : g.length ≤ 199) {a : Int} (ha : 0 ≤ a ∧ a < (g.length : Int)) {j : Nat} (hj : (j : Int) < 4611686018427387904) {kd vs : Int} {c : Tp} {lab : ByteArray} (hev : EvFn Γ kd vs 0 noB c lab 0)
 (hk : kd = 2 ∨ kd = 3 ∨ kd = 4 ∨ kd = 5 ∨ kd = 6 ∨ kd = 7) (hc : kd = 4 ∨ kd = 5 → tCheck c = 0) {v : Int} (hn : nxtM g (gAt g a) kd vs c lab = v) (h0 : 0 ≤ v) :
 SFn Tryd.prog Γ 36 [.ref 20 0,.d (evD kd vs 0 noB c lab)] [(20,.cells (monC g a 0 j))] (.tup [.d (iD 0),.d (iD 0)]) [(20,.cells (monC g v 0 ((j + 1 : Nat) : Int)))]:=by
 have:=(take_fn Γ Hg hl (m:=⟨a,0,j⟩) ⟨ha,by simp only;omega,hj⟩ kd vs 0 noB c lab hev (fun _=>⟨hk,hc⟩)).up 20
 have e : takeS g ⟨a,0,j⟩ 0 kd vs c lab = ⟨v,0,((j + 1 : Nat) : Int)⟩:=by
  unfold takeS lookS
  simp only [ne_eq,not_true_eq_false,if_false,if_true,hn,if_pos h0]
  congr 1
 rw [e,if_neg (by decide)] at this
 exact this
end Go.Proofs.YtgecnlcbdbaneaaDoor
/- comply.stuck: there is none just if they get on; ComplyBelow in plain words. -/
namespace Go.Proofs.YtgecnlcbdbaneaaDoor
open Go.RowKit Go.Sw

end Go.Proofs.YtgecnlcbdbaneaaDoor
/- Both ends change places: plain. -/
namespace Go.Proofs.YtgecnlcbdbaneaaDoor
open Go.RowKit Go.Sw

abbrev Que:=List (Pc × Int)
def hasE (p : Pc) (qu : Que) : Bool:=qu.any fun q=>decide (p = q.1)
def addE (d : Int) (qu : Que) (s : ByteArray × Pc) : Que:=if hasE s.2 qu = true then qu else qu ++ [(s.2,d + 1)]
theorem hasE_mem {p : Pc} {qu : Que} : hasE p qu = true ↔ p ∈ qu.map (·.1):=by
 unfold hasE
 rw [List.any_eq_true]
 simp only [decide_eq_true_eq,List.mem_map]
 exact ⟨fun ⟨q,h,e⟩=>⟨q,h,e.symm⟩,fun ⟨q,h,e⟩=>⟨q,h,e.symm⟩⟩
structure QE (n m : Nat) (qu : Que) : Prop where
 nd : (qu.map (·.1)).Nodup
 r : ∀ q ∈ qu,(0 ≤ q.1.a ∧ q.1.a < (n : Int)) ∧ 0 ≤ q.1.b ∧ q.1.b < (m : Int)
 p : ∀ (i : Nat) (q : Pc × Int),qu[i]? = some q → 1 ≤ q.2 ∧ q.2 ≤ (i : Int) + 1
theorem QE.add {n m : Nat} {qu : Que} (h : QE n m qu) {d : Int} {k : Nat} (hd : 1 ≤ d ∧ d ≤ (k : Int) + 1) (hk : k < qu.length) {s : ByteArray × Pc} (hs : (0 ≤ s.2.a ∧ s.2.a < (n : Int)) ∧ 0 ≤ s.2.b ∧ s.2.b < (m : Int)) : QE n m (addE d qu s):=by
 unfold addE
 split
 · exact h
 · rename_i hn
   refine ⟨?_,fun q hq=>?_,fun i q hq=>?_⟩
   · rw [List.map_append,List.nodup_append]
     refine ⟨h.nd,by simp,fun a ha b hb e=>?_⟩
     rw [show b = s.2 by simpa using hb] at e
     exact hn (hasE_mem.2 (e ▸ ha))
   · rcases List.mem_append.1 hq with hq | hq
     · exact h.r q hq
     · rw [show q = (s.2,d + 1) by simpa using hq];exact hs
   · by_cases hi : i < qu.length
     · rw [List.getElem?_append_left hi] at hq
       exact h.p i q hq
     · rw [List.getElem?_append_right (by omega)] at hq
       cases hj : i - qu.length with
       | zero =>
        rw [hj] at hq
        rw [show q = (s.2,d + 1) by simpa using hq.symm]
        simp only
        omega
       | succ j=>rw [hj] at hq;simp at hq
theorem addE_len (d : Int) (qu : Que) (s : ByteArray × Pc) : qu.length ≤ (addE d qu s).length ∧ ∀ j,j < qu.length → (addE d qu s)[j]? = qu[j]? := by
 unfold addE
 split
 · exact ⟨Nat.le_refl _,fun _ _=>rfl⟩
 · exact ⟨by simp,fun j hj=>List.getElem?_append_left hj⟩
theorem QE.adds {n m : Nat} {d : Int} {k : Nat} (hd : 1 ≤ d ∧ d ≤ (k : Int) + 1) : ∀ {l : List (ByteArray × Pc)} {qu : Que},QE n m qu → k < qu.length → (∀ s ∈ l,(0 ≤ s.2.a ∧ s.2.a < (n : Int)) ∧ 0 ≤ s.2.b ∧ s.2.b < (m : Int)) → QE n m (l.foldl (addE d) qu)
 | [],_,h,_,_=>h
 | s :: l,qu,h,hk,hs=>by
  have h1 : QE n m (addE d qu s):=h.add hd hk (hs s (by simp))
  have h2 : k < (addE d qu s).length:=by have:=(addE_len d qu s).1;omega
  have h3:=QE.adds (l:=l) (qu:=addE d qu s) hd h1 h2 fun t ht=>hs t (by simp [ht])
  exact h3
theorem QE.len {n m : Nat} {qu : Que} (h : QE n m qu) : qu.length ≤ n * m:=by
 have hq : QC n m (qu.map fun q=>(q.1,[])):=⟨by rw [List.map_map];exact h.nd,fun q hq=>by
  obtain ⟨r,hr,rfl⟩:=List.mem_map.1 hq
  exact h.r r hr,fun i q hq=>by
  rw [List.getElem?_map] at hq
  cases hx : qu[i]? with
  | none=>rw [hx] at hq;cases hq
  | some r=>rw [hx] at hq;cases hq;simp⟩
 have:=hq.len
 simpa using this
end Go.Proofs.YtgecnlcbdbaneaaDoor
/- graph.back; a symbolic walk. -/
-- TYPESC
namespace Go.Proofs.YtgecnlcbdbaneaaDoor
open Go.RowKit Go.Sw

def appO (acc : List Tp) (q : Option (List Tp) × BkSt) : Option (List Tp) × BkSt:=(match q.1 with | none=>none | some xs=>some (acc ++ xs),q.2)
end Go.Proofs.YtgecnlcbdbaneaaDoor
/- graph.Back; a symbolic walk. -/
-- TYPESC
namespace Go.Proofs.YtgecnlcbdbaneaaDoor
open Go.RowKit Go.Sw

end Go.Proofs.YtgecnlcbdbaneaaDoor
/- comply.Ends, comply.Stuck, duetkeep.back; a symbolic walk. -/
-- TYPESC
namespace Go.Proofs.YtgecnlcbdbaneaaDoor
open Go.RowKit Go.Sw

theorem QE.pos {n m : Nat} {qu : Que} (h : QE n m qu) {q : Pc × Int} (hq : q ∈ qu) : 1 ≤ q.2 ∧ q.2 ≤ 40000 + 1 ∨ n * m > 40000:=by
 obtain ⟨i,hi,rfl⟩:=List.mem_iff_getElem.1 hq
 have h1:=h.p i _ (List.getElem?_eq_getElem hi)
 have h2:=h.len
 by_cases hb : n * m > 40000
 · exact .inr hb
 · exact .inl ⟨h1.1,by omega⟩
end Go.Proofs.YtgecnlcbdbaneaaDoor
/- The law MonitorMirror; a symbolic walk. -/
-- TYPESE
namespace Go.Proofs.YtgecnlcbdbaneaaDoor
open Go.RowKit Go.Sw

theorem ptr51 : Tryd.prog.underlying 51 = some (.pointer (Tryd.prog.pointee 51)):=by kernel_rfl
theorem mo0 {x : Tp} (hx : tCheck x = 0) : MoOK (ofP x) ⟨0,0,0⟩:=⟨⟨by decide,by have:=(ofP_gd hx).pos;simp only;omega⟩,by simp only;omega⟩
end Go.Proofs.YtgecnlcbdbaneaaDoor
