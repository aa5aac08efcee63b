/- comply.stuck: there is none just if they get on; ComplyBelow in plain words. -/
import Derived.Test.YtgecnlcbdbaneaaDoorH28
import Derived.Test.YtgecnlcbdbaneaaDoorKA3
set_option linter.unusedVariables false
set_option linter.unusedSimpArgs false
namespace Go.Proofs.YtgecnlcbdbaneaaDoor
open Go.RowKit Go.Sw

theorem xb5 {Q : Pc → Prop} (path : List ByteArray) : ∀ (l : List (ByteArray × Pc)) (qu : Quc),(∀ q ∈ qu,Q q.1) → (∀ s ∈ l,Q s.2) → ∀ q ∈ l.foldl (qw7 path) qu,Q q.1
 | [],qu,h,_=>h
 | s :: l, qu,h,hl=>xb5 path l (qw7 path qu s) (by
     intro q hq
     unfold qw7 at hq
     split at hq
     · exact h q hq
     · rcases List.mem_append.1 hq with hq | hq
       · exact h q hq
       · rw [List.mem_singleton] at hq
         subst hq
         exact hl s (by simp)) fun x hx=>hl x (by simp [hx])
theorem xe1 (path : List ByteArray) : ∀ (l : List (ByteArray × Pc)) (qu : Quc),(∀ p,vo1 p qu = true → vo1 p (l.foldl (qw7 path) qu) = true) ∧ ∀ s ∈ l,vo1 s.2 (l.foldl (qw7 path) qu) = true
 | [],qu=>⟨fun _ h=>h,fun s hs=>by cases hs⟩
 | s :: l,qu=>by
  have ih:=xe1 path l (qw7 path qu s)
  have h1 : ∀ p,vo1 p qu = true → vo1 p (qw7 path qu s) = true:=fun p hp=>by
   unfold qw7
   split
   · exact hp
   · rw [qv2] at hp ⊢
     rw [List.map_append];exact List.mem_append_left _ hp
  have h2 : vo1 s.2 (qw7 path qu s) = true:=by
   unfold qw7
   split
   · rename_i h;exact h
   · rw [qv2];simp
  refine ⟨fun p hp=>ih.1 p (h1 p hp),fun x hx=>?_⟩
  rcases List.mem_cons.1 hx with rfl | hx
  · exact ih.1 _ h2
  · exact ih.2 x hx
def inP (g h : List Nd) (p : Pc) : Prop:=(0 ≤ p.a ∧ p.a < (g.length : Int)) ∧ 0 ≤ p.b ∧ p.b < (h.length : Int)
theorem vj7 {g h : List Nd} (Hg : Gd g) (Hh : Gd h) : ∀ (f at' : Nat) (qu : Quc),(∀ q ∈ qu,inP g h q.1 ∧ ∀ n,cS g h n q.1) → qz1 g h f at' qu = none
 | 0,_,_,_=>rfl
 | f + 1,at',qu,hq=>by
  unfold qz1
  cases hx : qu[at']? with
  | none=>rfl
  | some q =>
   obtain ⟨p,path⟩:=q
   obtain ⟨hr,hall⟩:=hq _ (List.mem_of_getElem? hx)
   obtain ⟨l,hl,hs⟩:=(vs9 Hg Hh hr.1.1 hr.1.2 hr.2.1 hr.2.2).2 hall
   simp only at hl
   simp only [hl]
   exact vj7 Hg Hh f _ _ (xb5 (Q:=fun p=>inP g h p ∧ ∀ n,cS g h n p) path l qu hq fun s hs2=>⟨(vu8 Hg Hh p hr.1.1 hr.1.2 hr.2.1 hr.2.2 l hl).2 s hs2,hs s hs2⟩)
theorem va5 {g h : List Nd} (hok : xj7 g h) : ∀ (f at' : Nat) (qu : Quc),QC g.length h.length qu → at' ≤ qu.length → g.length * h.length + 1 ≤ at' + f →
 (∀ (i : Nat) (q : Pc × List ByteArray),i < at' → qu[i]? = some q → ∃ l,qq0 g h q.1 = some l ∧ ∀ s ∈ l,vo1 s.2 qu = true) → qz1 g h f at' qu = none →
 ∃ qu' : Quc,QC g.length h.length qu' ∧ (∀ p,vo1 p qu = true → vo1 p qu' = true) ∧ ∀ p,vo1 p qu' = true → ∃ l,qq0 g h p = some l ∧ ∀ s ∈ l,vo1 s.2 qu' = true
 | 0,at',qu,hq,ha,hf,hc,hw=>by
  have:=hq.len
  omega
 | f + 1, at',qu,hq,ha,hf,hc,hw=>by
  unfold qz1 at hw
  cases hx : qu[at']? with
  | none =>
   have : qu.length ≤ at':=by simpa using hx
   refine ⟨qu,hq,fun _ h=>h,fun p hp=>?_⟩
   rw [qv2] at hp
   obtain ⟨q,hq,rfl⟩:=List.mem_map.1 hp
   obtain ⟨i,hi,rfl⟩:=List.mem_iff_getElem.1 hq
   exact hc i _ (by omega) (List.getElem?_eq_getElem hi)
  | some q =>
   obtain ⟨p,path⟩:=q
   rw [hx] at hw
   simp only at hw
   have hlt:=(List.getElem?_eq_some_iff.1 hx).1
   have hp:=hq.p at' _ hx
   have hr:=hq.r _ (List.mem_of_getElem? hx)
   simp only at hr hp
   cases hF : qq0 g h p with
   | none=>rw [hF] at hw;cases hw
   | some l =>
    rw [hF] at hw
    simp only at hw
    have hl:=va2 path l qu
    have hh:=xe1 path l qu
    obtain ⟨qu',h0,h1,h2⟩:=va5 hok f (at' + 1) (l.foldl (qw7 path) qu) (QC.adds hp hq hlt ((hok p hr.1.1 hr.1.2 hr.2.1 hr.2.2 l hF).2)) (by omega) (by omega) (fun i q hi hqi=>by
     rw [hl.2 i (by omega)] at hqi
     by_cases he : i = at'
     · subst he
       rw [hx] at hqi
       cases hqi
       exact ⟨l,hF,hh.2⟩
     · obtain ⟨l',e1,e2⟩:=hc i q (by omega) hqi
       exact ⟨l',e1,fun s hs=>hh.1 _ (e2 s hs)⟩) hw
    exact ⟨qu',h0,fun p hp=>h1 p (hh.1 p hp),h2⟩
theorem yh0 {g h : List Nd} (Hg : Gd g) (Hh : Gd h) : vg4 g h = none ↔ ∀ n,qh7 n (dT n (obs h n 0)) (obs g n 0):=by
 have g0:=Hg.pos
 have h0:=Hh.pos
 constructor
 · intro hw
   unfold vg4 at hw
   obtain ⟨qu,hqc,h1,h2⟩:=va5 (vu8 Hg Hh) _ 0 [(⟨0,0⟩,[])] ⟨by simp,by simp;omega,fun i q h=>by
    cases i with
    | zero=>simp at h;subst h;simp
    | succ i=>simp at h⟩ (by simp) (by omega) (fun i q hi=>by omega) hw
   have : ∀ (n : Nat) (p : Pc),vo1 p qu = true → cS g h n p:=fun n=>by
    induction n with
    | zero=>intro p _;exact trivial
    | succ n ih =>
     intro p hp
     obtain ⟨l,e1,e2⟩:=h2 p hp
     obtain ⟨q,hq,rfl⟩:=List.mem_map.1 (qv2.1 hp)
     have hr:=hqc.r q hq
     exact (vs9 Hg Hh hr.1.1 hr.1.2 hr.2.1 hr.2.2).1 n l e1 fun s hs=>ih _ (e2 s hs)
   intro n
   exact this n ⟨0,0⟩ (h1 _ (by rw [qv2];simp))
 · intro hs
   unfold vg4
   refine vj7 Hg Hh _ _ _ fun q hq=>?_
   rw [List.mem_singleton] at hq
   subst hq
   exact ⟨⟨⟨by decide,by simp only;omega⟩,by decide,by simp only;omega⟩,hs⟩
theorem do_iff {x y : Tp} (h : qs6 x y = 0) : doP x y = true ↔ ∀ n,qh7 n (dT n (trT y n)) (trT x n):=by
 obtain ⟨hx,hy⟩:=qi6 h
 unfold doP
 rw [if_pos h,Option.isNone_iff_eq_none,yh0 (qo7 hx) (qo7 hy)]
 simp only [qy2 hx,qy2 hy]
end Go.Proofs.YtgecnlcbdbaneaaDoor
/- The law BelowBound; a symbolic walk. -/
-- TYPESD
namespace Go.Proofs.YtgecnlcbdbaneaaDoor
open Go.RowKit Go.Sw

theorem yq3 (a b : List Nd) (u : Int) : vd7 a b u = 0 ∨ vd7 a b u = 2 ∨ vd7 a b u = 8:=by
 unfold vd7
 split
 · simp
 · split <;> simp
end Go.Proofs.YtgecnlcbdbaneaaDoor
/- Both ends change places: plain. -/
namespace Go.Proofs.YtgecnlcbdbaneaaDoor
open Go.RowKit Go.Sw

abbrev Que:=List (Pc × Int)
def hasE (p : Pc) (qu : Que) : Bool:=qu.any fun q=>decide (p = q.1)
def yt8 (d : Int) (qu : Que) (s : ByteArray × Pc) : Que:=if hasE s.2 qu = true then qu else qu ++ [(s.2,d + 1)]
theorem yu5 {p : Pc} {qu : Que} : hasE p qu = true ↔ p ∈ qu.map (·.1):=by
 unfold hasE
 rw [List.any_eq_true]
 simp only [decide_eq_true_eq,List.mem_map]
 exact ⟨fun ⟨q,h,e⟩=>⟨q,h,e.symm⟩,fun ⟨q,h,e⟩=>⟨q,h,e.symm⟩⟩
structure QE (n m : Nat) (qu : Que) : Prop where
 nd : (qu.map (·.1)).Nodup
 r : ∀ q ∈ qu,(0 ≤ q.1.a ∧ q.1.a < (n : Int)) ∧ 0 ≤ q.1.b ∧ q.1.b < (m : Int)
 p : ∀ (i : Nat) (q : Pc × Int),qu[i]? = some q → 1 ≤ q.2 ∧ q.2 ≤ (i : Int) + 1
theorem QE.add {n m : Nat} {qu : Que} (h : QE n m qu) {d : Int} {k : Nat} (hd : 1 ≤ d ∧ d ≤ (k : Int) + 1) (hk : k < qu.length) {s : ByteArray × Pc} (hs : (0 ≤ s.2.a ∧ s.2.a < (n : Int)) ∧ 0 ≤ s.2.b ∧ s.2.b < (m : Int)) : QE n m (yt8 d qu s):=by
 unfold yt8
 split
 · exact h
 · rename_i hn
   refine ⟨?_,fun q hq=>?_,fun i q hq=>?_⟩
   · rw [List.map_append,List.nodup_append]
     refine ⟨h.nd,by simp,fun a ha b hb e=>?_⟩
     rw [show b = s.2 by simpa using hb] at e
     exact hn (yu5.2 (e ▸ ha))
   · rcases List.mem_append.1 hq with hq | hq
     · exact h.r q hq
     · rw [show q = (s.2,d + 1) by simpa using hq];exact hs
   · by_cases hi : i < qu.length
     · rw [List.getElem?_append_left hi] at hq
       exact h.p i q hq
     · rw [List.getElem?_append_right (by omega)] at hq
       cases hj : i - qu.length with
       | zero =>
        rw [hj] at hq
        rw [show q = (s.2,d + 1) by simpa using hq.symm]
        simp only
        omega
       | succ j=>rw [hj] at hq;simp at hq
theorem yq6 (d : Int) (qu : Que) (s : ByteArray × Pc) : qu.length ≤ (yt8 d qu s).length ∧ ∀ j,j < qu.length → (yt8 d qu s)[j]? = qu[j]? := by
 unfold yt8
 split
 · exact ⟨Nat.le_refl _,fun _ _=>rfl⟩
 · exact ⟨by simp,fun j hj=>List.getElem?_append_left hj⟩
theorem QE.adds {n m : Nat} {d : Int} {k : Nat} (hd : 1 ≤ d ∧ d ≤ (k : Int) + 1) : ∀ {l : List (ByteArray × Pc)} {qu : Que},QE n m qu → k < qu.length → (∀ s ∈ l,(0 ≤ s.2.a ∧ s.2.a < (n : Int)) ∧ 0 ≤ s.2.b ∧ s.2.b < (m : Int)) → QE n m (l.foldl (yt8 d) qu)
 | [],_,h,_,_=>h
 | s :: l,qu,h,hk,hs=>by
  have h1 : QE n m (yt8 d qu s):=h.add hd hk (hs s (by simp))
  have h2 : k < (yt8 d qu s).length:=by have:=(yq6 d qu s).1;omega
  have h3:=QE.adds (l:=l) (qu:=yt8 d qu s) hd h1 h2 fun t ht=>hs t (by simp [ht])
  exact h3
theorem QE.len {n m : Nat} {qu : Que} (h : QE n m qu) : qu.length ≤ n * m:=by
 have hq : QC n m (qu.map fun q=>(q.1,[])):=⟨by rw [List.map_map];exact h.nd,fun q hq=>by
  obtain ⟨r,hr,rfl⟩:=List.mem_map.1 hq
  exact h.r r hr,fun i q hq=>by
  rw [List.getElem?_map] at hq
  cases hx : qu[i]? with
  | none=>rw [hx] at hq;cases hq
  | some r=>rw [hx] at hq;cases hq;simp⟩
 have:=hq.len
 simpa using this
end Go.Proofs.YtgecnlcbdbaneaaDoor
