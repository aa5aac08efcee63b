/- comply.stuck: there is none just if they get on; ComplyBelow in plain words. -/
import Derived.Test.YtnclmjbkkgghhaaDoorHC2
set_option linter.unusedVariables false
set_option linter.unusedSimpArgs false
namespace Go.Proofs.YtnclmjbkkgghhaaDoor
open Go.RowKit Go.Sw

theorem foldC_all {Q : Pc → Prop} (path : List ByteArray) : ∀ (l : List (ByteArray × Pc)) (qu : Quc),(∀ q ∈ qu,Q q.1) → (∀ s ∈ l,Q s.2) → ∀ q ∈ l.foldl (addC path) qu,Q q.1
  | [],qu,h,_=>h
  | s :: l, qu,h,hl=>foldC_all path l (addC path qu s) (by
      intro q hq
      unfold addC at hq
      split at hq
      · exact h q hq
      · rcases List.mem_append.1 hq with hq | hq
        · exact h q hq
        · rw [List.mem_singleton] at hq
          subst hq
          exact hl s (by simp)) fun x hx=>hl x (by simp [hx])
theorem foldC_has (path : List ByteArray) : ∀ (l : List (ByteArray × Pc)) (qu : Quc),(∀ p,hasC p qu = true → hasC p (l.foldl (addC path) qu) = true) ∧ ∀ s ∈ l,hasC s.2 (l.foldl (addC path) qu) = true
  | [],qu=>⟨fun _ h=>h,fun s hs=>by cases hs⟩
  | s :: l,qu=>by
    have ih:=foldC_has path l (addC path qu s)
    have h1 : ∀ p,hasC p qu = true → hasC p (addC path qu s) = true:=fun p hp=>by
      unfold addC
      split
      · exact hp
      · rw [hasC_mem] at hp ⊢
        rw [List.map_append]; exact List.mem_append_left _ hp
    have h2 : hasC s.2 (addC path qu s) = true:=by
      unfold addC
      split
      · rename_i h; exact h
      · rw [hasC_mem]; simp
    refine ⟨fun p hp=>ih.1 p (h1 p hp),fun x hx=>?_⟩
    rcases List.mem_cons.1 hx with rfl | hx
    · exact ih.1 _ h2
    · exact ih.2 x hx
def inP (g h : List Nd) (p : Pc) : Prop:=(0 ≤ p.a ∧ p.a < (g.length : Int)) ∧ 0 ≤ p.b ∧ p.b < (h.length : Int)
theorem stuckF_none {g h : List Nd} (Hg : Gd g) (Hh : Gd h) : ∀ (f at' : Nat) (qu : Quc),(∀ q ∈ qu,inP g h q.1 ∧ ∀ n,cS g h n q.1) → stuckF g h f at' qu = none
  | 0,_,_,_=>rfl
  | f + 1,at',qu,hq=>by
    unfold stuckF
    cases hx : qu[at']? with
    | none=>rfl
    | some q =>
      obtain ⟨p,path⟩:=q
      obtain ⟨hr,hall⟩:=hq _ (List.mem_of_getElem? hx)
      obtain ⟨l,hl,hs⟩:=(meets_tree Hg Hh hr.1.1 hr.1.2 hr.2.1 hr.2.2).2 hall
      simp only at hl
      simp only [hl]
      exact stuckF_none Hg Hh f _ _ (foldC_all (Q:=fun p=>inP g h p ∧ ∀ n,cS g h n p) path l qu hq fun s hs2=>⟨(meets_ok Hg Hh p hr.1.1 hr.1.2 hr.2.1 hr.2.2 l hl).2 s hs2,hs s hs2⟩)
theorem stuckF_closed {g h : List Nd} (hok : MeetsOK g h) : ∀ (f at' : Nat) (qu : Quc),QC g.length h.length qu → at' ≤ qu.length → g.length * h.length + 1 ≤ at' + f →
    (∀ (i : Nat) (q : Pc × List ByteArray),i < at' → qu[i]? = some q → ∃ l,meetsP g h q.1 = some l ∧ ∀ s ∈ l,hasC s.2 qu = true) → stuckF g h f at' qu = none →
    ∃ qu' : Quc,QC g.length h.length qu' ∧ (∀ p,hasC p qu = true → hasC p qu' = true) ∧ ∀ p,hasC p qu' = true → ∃ l,meetsP g h p = some l ∧ ∀ s ∈ l,hasC s.2 qu' = true
  | 0,at',qu,hq,ha,hf,hc,hw=>by
    have:=hq.len
    omega
  | f + 1, at',qu,hq,ha,hf,hc,hw=>by
    unfold stuckF at hw
    cases hx : qu[at']? with
    | none =>
      have : qu.length ≤ at':=by simpa using hx
      refine ⟨qu,hq,fun _ h=>h,fun p hp=>?_⟩
      rw [hasC_mem] at hp
      obtain ⟨q,hq,rfl⟩:=List.mem_map.1 hp
      obtain ⟨i,hi,rfl⟩:=List.mem_iff_getElem.1 hq
      exact hc i _ (by omega) (List.getElem?_eq_getElem hi)
    | some q =>
      obtain ⟨p,path⟩:=q
      rw [hx] at hw
      simp only at hw
      have hlt:=(List.getElem?_eq_some_iff.1 hx).1
      have hp:=hq.p at' _ hx
      have hr:=hq.r _ (List.mem_of_getElem? hx)
      simp only at hr hp
      cases hF : meetsP g h p with
      | none=>rw [hF] at hw; cases hw
      | some l =>
        rw [hF] at hw
        simp only at hw
        have hl:=addsC_len path l qu
        have hh:=foldC_has path l qu
        obtain ⟨qu',h0,h1,h2⟩:=stuckF_closed hok f (at' + 1) (l.foldl (addC path) qu) (QC.adds hp hq hlt ((hok p hr.1.1 hr.1.2 hr.2.1 hr.2.2 l hF).2)) (by omega) (by omega) (fun i q hi hqi=>by
          rw [hl.2 i (by omega)] at hqi
          by_cases he : i = at'
          · subst he
            rw [hx] at hqi
            cases hqi
            exact ⟨l,hF,hh.2⟩
          · obtain ⟨l',e1,e2⟩:=hc i q (by omega) hqi
            exact ⟨l',e1,fun s hs=>hh.1 _ (e2 s hs)⟩) hw
        exact ⟨qu',h0,fun p hp=>h1 p (hh.1 p hp),h2⟩
/-- They get on just if all the way down they do. -/
theorem stuck_iff {g h : List Nd} (Hg : Gd g) (Hh : Gd h) : stuckP g h = none ↔ ∀ n,subT n (dT n (obs h n 0)) (obs g n 0):=by
  have g0:=Hg.pos
  have h0:=Hh.pos
  constructor
  · intro hw
    unfold stuckP at hw
    obtain ⟨qu,hqc,h1,h2⟩:=stuckF_closed (meets_ok Hg Hh) _ 0 [(⟨0,0⟩,[])] ⟨by simp,by simp; omega,fun i q h=>by
      cases i with
      | zero=>simp at h; subst h; simp
      | succ i=>simp at h⟩ (by simp) (by omega) (fun i q hi=>by omega) hw
    have : ∀ (n : Nat) (p : Pc),hasC p qu = true → cS g h n p:=fun n=>by
      induction n with
      | zero=>intro p _; exact trivial
      | succ n ih =>
        intro p hp
        obtain ⟨l,e1,e2⟩:=h2 p hp
        obtain ⟨q,hq,rfl⟩:=List.mem_map.1 (hasC_mem.1 hp)
        have hr:=hqc.r q hq
        exact (meets_tree Hg Hh hr.1.1 hr.1.2 hr.2.1 hr.2.2).1 n l e1 fun s hs=>ih _ (e2 s hs)
    intro n
    exact this n ⟨0,0⟩ (h1 _ (by rw [hasC_mem]; simp))
  · intro hs
    unfold stuckP
    refine stuckF_none Hg Hh _ _ _ fun q hq=>?_
    rw [List.mem_singleton] at hq
    subst hq
    exact ⟨⟨⟨by decide,by simp only; omega⟩,by decide,by simp only; omega⟩,hs⟩
theorem do_iff {x y : Tp} (h : bErr x y = 0) : doP x y = true ↔ ∀ n,subT n (dT n (trT y n)) (trT x n):=by
  obtain ⟨hx,hy⟩:=bErr_zero h
  unfold doP
  rw [if_pos h,Option.isNone_iff_eq_none,stuck_iff (ofP_gd hx) (ofP_gd hy)]
  simp only [ofP_obs hx,ofP_obs hy]
theorem do_sub {x y : Tp} (h : bErr x y = 0) : subG (dG y) (ofP x) = doP x y:=by
  obtain ⟨hx,hy⟩:=bErr_zero h
  rw [Bool.eq_iff_iff,do_iff h,sub_iff (dG_gd hy) (ofP_gd hx)]
  simp only [(dG_good hy).2.2.2.2,ofP_obs hx]
theorem do_below {x y z : Tp} (h : bErr x y = 0) (h' : bErr y z = 0) (a : doP x y = true) (b : isP y z = true) : doP x z = true:=by
  obtain ⟨hx,hy⟩:=bErr_zero h
  have hz:=(bErr_zero h').2
  have h3 : bErr x z = 0:=bErr_of hx hz
  rw [do_iff h3]
  rw [do_iff h] at a
  rw [is_iff h'] at b
  exact fun n=>sub_trans n _ _ _ ((sub_dual n _ _ (trT_wf hy n) (trT_wf hz n)).2 (b n)) (a n)
theorem complyLaw (Γ : Gl) (hΓ : PowT Γ) (x y z : Tp) : DFn Tryd.prog Γ 10 [x.d,y.d,z.d] (.v (.bool true)):=complyLaw0 Γ hΓ x y z do_sub do_below
end Go.Proofs.YtnclmjbkkgghhaaDoor
