/- A value hangs on the last bindings of its names: plain laws. -/
import Derived.Test.YtiobdkibbhpojaaDoorX21
import Derived.Test.YtiobdkibbhpojaaDoorX23
set_option linter.unusedVariables false
set_option linter.unusedSimpArgs false
namespace Go.Proofs.YtiobdkibbhpojaaDoor
open Go.RowKit Go.Sw

theorem lastB_none (nm : List UInt8) : ∀ l : List Bd, lastB nm l = none ↔ ∀ b ∈ l, b.nm.toList ≠ nm
  | [] => by simp [lastB]
  | b :: l => by
    have ih := lastB_none nm l
    unfold lastB
    cases h : lastB nm l with
    | some c =>
      rw [h] at ih
      simp only [reduceCtorEq, false_iff] at ih ⊢
      exact fun q => ih fun b hb => q b (List.mem_cons_of_mem _ hb)
    | none =>
      have ih := ih.1 h
      by_cases hb : b.nm.toList = nm
      · simp [hb]
      · simp only [hb, if_false, true_iff]
        intro c hc
        rcases List.mem_cons.1 hc with rfl | hc
        · exact hb
        · exact ih c hc
/-- Those that are asked for and are the last of their names. -/
def selB (q : Bd → Bool) : List Bd → List Bd
  | [] => []
  | b :: l => if (q b && !(l.any fun c => c.nm.toList == b.nm.toList)) = true then b :: selB q l else selB q l
theorem selB_sub (q : Bd → Bool) : ∀ (l : List Bd), ∀ b ∈ selB q l, b ∈ l
  | [], b, h => by simp [selB] at h
  | a :: l, b, h => by
    unfold selB at h
    split at h
    · rcases List.mem_cons.1 h with rfl | h
      · exact List.mem_cons_self
      · exact List.mem_cons_of_mem _ (selB_sub q l b h)
    · exact List.mem_cons_of_mem _ (selB_sub q l b h)
theorem selB_len (q : Bd → Bool) : ∀ (l : List Bd), (selB q l).length ≤ l.length
  | [] => Nat.le_refl _
  | a :: l => by
    have := selB_len q l
    unfold selB
    split
    · simp only [List.length_cons]; omega
    · simp only [List.length_cons]; omega
theorem lastB_sel (q : Bd → Bool) (nm : List UInt8) (hq : ∀ b : Bd, b.nm.toList = nm → q b = true) : ∀ l : List Bd, lastB nm (selB q l) = lastB nm l
  | [] => rfl
  | b :: l => by
    have ih := lastB_sel q nm hq l
    unfold selB
    split
    · simp only [lastB, ih]
    · rename_i hc
      rw [ih]
      simp only [lastB]
      cases h : lastB nm l with
      | some c => rfl
      | none =>
        by_cases hb : b.nm.toList = nm
        · exfalso
          have hn := (lastB_none nm l).1 h
          apply hc
          rw [hq b hb, Bool.true_and, hb]
          simp only [Bool.not_eq_true', List.any_eq_false, beq_iff_eq]
          exact fun c hc => hn c hc
        · simp [hb]
mutual
theorem srt_last (a b : List Bd) : ∀ x : Ex, (∀ c ∈ coll x, lastB c.toList a = lastB c.toList b) → srtE a x = srtE b x
  | .mk k nm t n s l, h => by
    have hl := srts_last a b l fun c hc => h c (by unfold coll; exact List.mem_append_right _ hc)
    simp only [srtE]
    rw [srt, srt]
    by_cases h1 : k = 1
    · rw [if_pos h1, if_pos h1]
    · rw [if_neg h1, if_neg h1]
      by_cases h2 : k = 2
      · rw [if_pos h2, if_pos h2, look_all, look_all, h nm (by unfold coll; rw [if_pos h2]; simp)]
      · rw [if_neg h2, if_neg h2]
        exact hl _ _ _
theorem srts_last (a b : List Bd) : ∀ l : List Ex, (∀ c ∈ colls l, lastB c.toList a = lastB c.toList b) → ∀ (inn : Int) (fst : Bool) (out : Int), srtsE a l inn fst out = srtsE b l inn fst out
  | [], _, _, _, _ => rfl
  | x :: l, h, inn, fst, out => by
    have h1 := srt_last a b x fun c hc => h c (by unfold colls; exact List.mem_append_left _ hc)
    have h2 := srts_last a b l fun c hc => h c (by unfold colls; exact List.mem_append_right _ hc)
    rw [srtsE_cons, srtsE_cons, h1]
    simp only [h2]
end
mutual
theorem evl_last (a b : List Bd) : ∀ x : Ex, (∀ c ∈ coll x, lastB c.toList a = lastB c.toList b) → evl a x = evl b x
  | .mk k nm t n s l, h => by
    have hl := evls_last a b l fun c hc => h c (by unfold coll; exact List.mem_append_right _ hc)
    rw [evl, evl]
    by_cases h1 : k = 1
    · rw [if_pos h1, if_pos h1]
    · rw [if_neg h1, if_neg h1]
      by_cases h2 : k = 2
      · rw [if_pos h2, if_pos h2, lookB_all, lookB_all, h nm (by unfold coll; rw [if_pos h2]; simp)]
      · rw [if_neg h2, if_neg h2, hl]
theorem evls_last (a b : List Bd) : ∀ l : List Ex, (∀ c ∈ colls l, lastB c.toList a = lastB c.toList b) → evls a l = evls b l
  | [], _ => rfl
  | x :: l, h => by
    rw [evls, evls, evl_last a b x fun c hc => h c (by unfold colls; exact List.mem_append_left _ hc), evls_last a b l fun c hc => h c (by unfold colls; exact List.mem_append_right _ hc)]
end
theorem badE_zero : ∀ {l : List Bd}, (∀ b ∈ l, vcheck b.t b.n b.s = 0) → badE l = 0
  | [], _ => rfl
  | b :: l, h => by
    rw [badE_cons, if_neg (by simpa using h b List.mem_cons_self)]
    exact badE_zero fun c hc => h c (List.mem_cons_of_mem _ hc)
theorem eval_last (x : Ex) (a b : List Bd) (ha : ∀ d ∈ a, vcheck d.t d.n d.s = 0) (hb : ∀ d ∈ b, vcheck d.t d.n d.s = 0) (h : ∀ c ∈ coll x, lastB c.toList a = lastB c.toList b) : evalN x a = evalN x b ∧ evalV x a = evalV x b := by
  have h1 : evalN x a = evalN x b := by
    have := srt_last a b x h
    simp only [srtE] at this
    unfold evalN
    rw [badE_zero ha, badE_zero hb, this]
  refine ⟨h1, ?_⟩
  unfold evalV
  rw [h1, evl_last a b x h]
/-- Is a name in an expression? -/
def nmIn (x : Ex) (b : Bd) : Bool := (namesX x).any fun c => b.nm.toList == c.toList
/-- The law, in plain words. -/
theorem free_law (x : Ex) (env other : List Bd) (hx : eCheck x = 0) (hg : ∀ b ∈ env ++ other, vcheck b.t b.n b.s = 0) (ho : ∀ b ∈ other, nmIn x b = false) :
    (evalN x env = evalN x (other ++ selB (nmIn x) env) ∧ evalV x env = evalV x (other ++ selB (nmIn x) env)) ∧ evalN x (other ++ selB (nmIn x) env) = evalN x (selB (nmIn x) env) ∧ evalV x (other ++ selB (nmIn x) env) = evalV x (selB (nmIn x) env) := by
  have hg1 : ∀ d ∈ env, vcheck d.t d.n d.s = 0 := fun d hd => hg d (List.mem_append_left _ hd)
  have hg2 : ∀ d ∈ selB (nmIn x) env, vcheck d.t d.n d.s = 0 := fun d hd => hg1 d (selB_sub _ _ d hd)
  have hg3 : ∀ d ∈ other ++ selB (nmIn x) env, vcheck d.t d.n d.s = 0 := fun d hd => by
    rcases List.mem_append.1 hd with hd | hd
    · exact hg d (List.mem_append_right _ hd)
    · exact hg2 d hd
  have hin : ∀ c ∈ coll x, ∀ b : Bd, b.nm.toList = c.toList → nmIn x b = true := fun c hc b hb => by
    unfold nmIn
    rw [List.any_eq_true]
    exact ⟨c, (namesX_mem x hx c).2 hc, by simpa using hb⟩
  have hs : ∀ c ∈ coll x, lastB c.toList (selB (nmIn x) env) = lastB c.toList env := fun c hc => lastB_sel _ _ (hin c hc) env
  have hm : ∀ c ∈ coll x, lastB c.toList (other ++ selB (nmIn x) env) = lastB c.toList (selB (nmIn x) env) := fun c hc => by
    have hn : lastB c.toList other = none := (lastB_none _ _).2 fun b hb q => by
      have := hin c hc b q
      rw [ho b hb] at this
      cases this
    rw [lastB_app, hn]
    cases lastB c.toList (selB (nmIn x) env) <;> rfl
  refine ⟨eval_last x env _ hg1 hg3 fun c hc => ?_, eval_last x _ _ hg3 hg2 hm⟩
  rw [hm c hc, hs c hc]
end Go.Proofs.YtiobdkibbhpojaaDoor
