/- What is folded: plain laws. -/
import Derived.Test.YtiobdkibbhpojaaDoorX9
import Derived.Test.YtiobdkibbhpojaaDoorX15
set_option linter.unusedVariables false
set_option linter.unusedSimpArgs false
namespace Go.Proofs.YtiobdkibbhpojaaDoor
open Go.RowKit Go.Sw

mutual
theorem chk_more : ∀ (x : Ex) (a d : Int), 0 ≤ d → (chk x a).1 = 0 → chk x (a + d) = (0, (chk x a).2 + d)
  | .mk k nm t n s l, a, d, hd, h => by
    unfold chk at h ⊢
    by_cases c0 : a - 1 < 0
    · rw [if_pos c0] at h; simp at h
    · have c1 : ¬ a + d - 1 < 0 := by omega
      rw [if_neg c0] at h ⊢
      rw [if_neg c1]
      by_cases c2 : k = 1 ∧ nm.toList = [] ∧ l.length = 0
      · rw [if_pos c2] at h ⊢
        rw [if_pos c2]
        simp only at h ⊢
        rw [h]
        simp only [Prod.mk.injEq, true_and]; omega
      · rw [if_neg c2] at h ⊢
        rw [if_neg c2]
        by_cases c3 : k = 2 ∧ bareB t n s = true ∧ l.length = 0 ∧ isNameB nm = true
        · rw [if_pos c3] at h ⊢
          rw [if_pos c3]
          simp only [Prod.mk.injEq, true_and]; omega
        · rw [if_neg c3] at h ⊢
          rw [if_neg c3]
          by_cases c4 : k = 3 ∧ bareB t n s = true ∧ opB nm l.length = true
          · rw [if_pos c4] at h ⊢
            rw [if_pos c4]
            have := chks_more l (a - 1) d hd h
            rw [show a + d - 1 = a - 1 + d by omega]
            exact this
          · rw [if_neg c4] at h; simp at h
theorem chks_more : ∀ (l : List Ex) (a d : Int), 0 ≤ d → (chks l a).1 = 0 → chks l (a + d) = (0, (chks l a).2 + d)
  | [], a, d, hd, h => rfl
  | x :: l, a, d, hd, h => by
    unfold chks at h ⊢
    by_cases c : (chk x a).1 ≠ 0
    · rw [if_pos c] at h; exact absurd h c
    · have c' : (chk x a).1 = 0 := by omega
      rw [if_neg c] at h ⊢
      have h1 := chk_more x a d hd c'
      rw [h1, if_neg (by simp)]
      exact chks_more l (chk x a).2 d hd h
end
mutual
theorem chk_down : ∀ (x : Ex) (a : Int), (chk x a).1 = 0 → (chk x a).2 ≤ a - 1
  | .mk k nm t n s l, a, h => by
    unfold chk at h ⊢
    by_cases c0 : a - 1 < 0
    · rw [if_pos c0] at h; simp at h
    · rw [if_neg c0] at h ⊢
      by_cases c2 : k = 1 ∧ nm.toList = [] ∧ l.length = 0
      · rw [if_pos c2]; simp
      · rw [if_neg c2] at h ⊢
        by_cases c3 : k = 2 ∧ bareB t n s = true ∧ l.length = 0 ∧ isNameB nm = true
        · rw [if_pos c3]; simp
        · rw [if_neg c3] at h ⊢
          by_cases c4 : k = 3 ∧ bareB t n s = true ∧ opB nm l.length = true
          · rw [if_pos c4] at h ⊢
            exact chks_down l (a - 1) h
          · rw [if_neg c4] at h; simp at h
theorem chks_down : ∀ (l : List Ex) (a : Int), (chks l a).1 = 0 → (chks l a).2 ≤ a
  | [], a, h => Int.le_refl _
  | x :: l, a, h => by
    unfold chks at h ⊢
    by_cases c : (chk x a).1 ≠ 0
    · rw [if_pos c] at h; exact absurd h c
    · have c' : (chk x a).1 = 0 := by omega
      rw [if_neg c] at h ⊢
      have h1 := chk_down x a c'
      have h2 := chks_down l _ h
      omega
end
theorem flds_len (l : List Ex) : (flds l).length = l.length := by rw [flds_map, List.length_map]
/-- What is folded of what is well-formed is well-formed. -/
theorem fld_wf (x : Ex) (h : wf x) : wf (fld x) := (fold_all x.size x (Nat.le_refl _) h).2.1
theorem flds_wf : ∀ {l : List Ex}, wfs l → wfs (flds l)
  | [], _ => trivial
  | x :: l, h => ⟨fld_wf x h.1, flds_wf h.2⟩
theorem fld_op (nm : ByteArray) (t n : Int) (s : ByteArray) (l : List Ex) : fld (.mk 3 nm t n s l) = if (flds l).all Ex.lit = true ∧ (srt [] [] (.mk 3 nm 0 0 ⟨#[]⟩ (flds l))).2 = 0 then Ex.ofVa (evl [] (.mk 3 nm 0 0 ⟨#[]⟩ (flds l))) else .mk 3 nm 0 0 ⟨#[]⟩ (flds l) := by
  rw [fld, if_neg (by decide)]
theorem typed0 (nm : ByteArray) (l : List Ex) (hop : opB nm l.length = true) (hw : wfs l) (h : (srt [] [] (.mk 3 nm 0 0 ⟨#[]⟩ l)).2 = 0) :
    (evl [] (.mk 3 nm 0 0 ⟨#[]⟩ l)).t = (srt [] [] (.mk 3 nm 0 0 ⟨#[]⟩ l)).1 ∧ (evl [] (.mk 3 nm 0 0 ⟨#[]⟩ l)).good := by
  have := typed [] (by simp) (by simp) _ (Ex.mk 3 nm 0 0 ⟨#[]⟩ l) (Nat.le_refl _) (by unfold wf; exact .inr (.inr ⟨rfl, hop, hw⟩)) _ (Prod.ext rfl h)
  exact ⟨this.1, this.2.1⟩
theorem bare0 : bareB 0 0 ⟨#[]⟩ = true := by simp [bareB, emptyL]
mutual
theorem chk_fld : ∀ (x : Ex) (a : Int), (chk x a).1 = 0 → (chk (fld x) a).1 = 0 ∧ (chk x a).2 ≤ (chk (fld x) a).2
  | .mk k nm t n s l, a, h => by
    have h' := h
    have hd := chk_down (.mk k nm t n s l) a h
    unfold chk at h
    by_cases c0 : a - 1 < 0
    · rw [if_pos c0] at h; simp at h
    · rw [if_neg c0] at h
      by_cases hk : k = 3
      · subst hk
        rw [if_neg (by simp), if_neg (by simp)] at h
        by_cases c4 : (3 : Int) = 3 ∧ bareB t n s = true ∧ opB nm l.length = true
        · rw [if_pos c4] at h
          have hw : wfs l := wfs_of_chks l _ h
          obtain ⟨g1, g2⟩ := chks_fld l (a - 1) h
          have hx : (chk (.mk 3 nm t n s l) a).2 = (chks l (a - 1)).2 := by
            rw [chk, if_neg c0, if_neg (by simp), if_neg (by simp), if_pos c4]
          rw [fld_op]
          by_cases hc : (flds l).all Ex.lit = true ∧ (srt [] [] (.mk 3 nm 0 0 ⟨#[]⟩ (flds l))).2 = 0
          · rw [if_pos hc]
            have hg := (typed0 nm (flds l) (by rw [flds_len]; exact c4.2.2) (flds_wf hw) hc.2).2
            unfold Ex.ofVa
            rw [chk, if_neg c0, if_pos ⟨rfl, emptyL, rfl⟩]
            exact ⟨hg, hd⟩
          · rw [if_neg hc]
            rw [hx, chk, if_neg c0, if_neg (by simp), if_neg (by simp), if_pos ⟨rfl, bare0, by rw [flds_len]; exact c4.2.2⟩]
            exact ⟨g1, g2⟩
        · rw [if_neg c4] at h; simp at h
      · have hl : l = [] := by
          by_cases c2 : k = 1 ∧ nm.toList = [] ∧ l.length = 0
          · exact List.eq_nil_of_length_eq_zero c2.2.2
          · rw [if_neg c2] at h
            by_cases c3 : k = 2 ∧ bareB t n s = true ∧ l.length = 0 ∧ isNameB nm = true
            · exact List.eq_nil_of_length_eq_zero c3.2.2.1
            · rw [if_neg c3, if_neg (fun q => hk q.1)] at h
              simp at h
        subst hl
        rw [fld, if_pos hk]
        exact ⟨h', Int.le_refl _⟩
theorem chks_fld : ∀ (l : List Ex) (a : Int), (chks l a).1 = 0 → (chks (flds l) a).1 = 0 ∧ (chks l a).2 ≤ (chks (flds l) a).2
  | [], a, h => ⟨rfl, Int.le_refl _⟩
  | x :: l, a, h => by
    unfold chks at h
    by_cases c : (chk x a).1 ≠ 0
    · rw [if_pos c] at h; exact absurd h c
    · have c' : (chk x a).1 = 0 := by omega
      rw [if_neg c] at h
      obtain ⟨g1, g2⟩ := chk_fld x a c'
      obtain ⟨g3, g4⟩ := chks_fld l _ h
      have hm := chks_more (flds l) (chk x a).2 ((chk (fld x) a).2 - (chk x a).2) (by omega) g3
      rw [show (chk x a).2 + ((chk (fld x) a).2 - (chk x a).2) = (chk (fld x) a).2 by omega] at hm
      have e1 : chks (x :: l) a = chks l (chk x a).2 := by rw [chks, if_neg c]
      have e2 : chks (flds (x :: l)) a = chks (flds l) (chk (fld x) a).2 := by rw [flds, chks, if_neg (by simpa using g1)]
      rw [e1, e2, hm]
      exact ⟨rfl, by simp only; omega⟩
end
mutual
theorem fld_fld : ∀ x : Ex, fld (fld x) = fld x
  | .mk k nm t n s l => by
    by_cases hk : k = 3
    · subst hk
      rw [fld_op]
      by_cases hc : (flds l).all Ex.lit = true ∧ (srt [] [] (.mk 3 nm 0 0 ⟨#[]⟩ (flds l))).2 = 0
      · rw [if_pos hc]
        unfold Ex.ofVa
        rw [fld, if_pos (by decide)]
      · rw [if_neg hc, fld_op, flds_flds l, if_neg hc]
    · rw [fld, if_pos hk, fld, if_pos hk]
theorem flds_flds : ∀ l : List Ex, flds (flds l) = flds l
  | [] => rfl
  | x :: l => by rw [flds, flds, fld_fld x, flds_flds l]
end
mutual
theorem same_refl : ∀ x : Ex, same x x = true
  | .mk k nm t n s l => by simp [same, sames_refl l]
theorem sames_refl : ∀ l : List Ex, sames l l = true
  | [] => rfl
  | x :: l => by simp [sames, same_refl x, sames_refl l]
end
theorem lit_srt {names : List ByteArray} {sorts : List Int} : ∀ {x : Ex}, x.lit = true → srt names sorts x = srt [] [] x
  | .mk k nm t n s l, h => by
    have : k = 1 := by simpa [Ex.lit] using h
    subst this
    rw [srt, srt, if_pos rfl, if_pos rfl]
theorem lit_srts {names : List ByteArray} {sorts : List Int} : ∀ {l : List Ex} {inn : Int} {fst : Bool} {out : Int}, l.all Ex.lit = true → srts names sorts l inn fst out = srts [] [] l inn fst out
  | [], _, _, _, _ => rfl
  | x :: l, inn, fst, out, h => by
    simp only [List.all_cons, Bool.and_eq_true] at h
    rw [srts, srts, lit_srt h.1]
    simp only [lit_srts h.2]
theorem lit_evl {env : List Bd} : ∀ {x : Ex}, x.lit = true → evl env x = evl [] x
  | .mk k nm t n s l, h => by
    have : k = 1 := by simpa [Ex.lit] using h
    subst this
    rw [evl, evl, if_pos rfl, if_pos rfl]
theorem lit_evls {env : List Bd} : ∀ {l : List Ex}, l.all Ex.lit = true → evls env l = evls [] l
  | [], _ => rfl
  | x :: l, h => by
    simp only [List.all_cons, Bool.and_eq_true] at h
    rw [evls, evls, lit_evl h.1, lit_evls h.2]
theorem srt_op {names : List ByteArray} {sorts : List Int} (nm : ByteArray) (t n : Int) (s : ByteArray) (l : List Ex) : srt names sorts (.mk 3 nm t n s l) = srts names sorts l (inL nm.toList) (inL nm.toList == 0) (outL nm.toList) := by
  rw [srt, if_neg (by decide), if_neg (by decide)]
theorem evl_op {env : List Bd} (nm : ByteArray) (t n t' n' : Int) (s s' : ByteArray) (l l' : List Ex) (h : evls env l = evls env l') : evl env (.mk 3 nm t n s l) = evl env (.mk 3 nm t' n' s' l') := by
  rw [evl, evl, if_neg (by decide), if_neg (by decide), if_neg (by decide), if_neg (by decide), h]
mutual
theorem fold_same (env : List Bd) (names : List ByteArray) (sorts : List Int) : ∀ (x : Ex), wf x → ∀ τ, srt names sorts x = (τ, 0) → srt names sorts (fld x) = (τ, 0) ∧ evl env (fld x) = evl env x
  | .mk k nm t n s l, hw, τ, hs => by
    by_cases hk : k = 3
    · subst hk
      unfold wf at hw
      rcases hw with hw | hw | hw
      · exact absurd hw.1 (by decide)
      · exact absurd hw (by decide)
      obtain ⟨-, hop, hwl⟩ := hw
      rw [srt_op] at hs
      obtain ⟨h1, h2⟩ := folds_same env names sorts l hwl _ _ _ _ hs
      rw [fld_op]
      by_cases hc : (flds l).all Ex.lit = true ∧ (srt [] [] (.mk 3 nm 0 0 ⟨#[]⟩ (flds l))).2 = 0
      · rw [if_pos hc]
        have ht := (typed0 nm (flds l) (by rw [flds_len]; exact hop) (flds_wf hwl) hc.2).1
        have e1 : srt [] [] (.mk 3 nm 0 0 ⟨#[]⟩ (flds l)) = (τ, 0) := by rw [srt_op, ← lit_srts hc.1]; exact h1
        rw [e1] at ht
        refine ⟨?_, ?_⟩
        · unfold Ex.ofVa
          rw [srt, if_pos rfl, ht]
        · unfold Ex.ofVa
          rw [evl, if_pos rfl]
          have e2 : evl [] (.mk 3 nm 0 0 ⟨#[]⟩ (flds l)) = evl env (.mk 3 nm 0 0 ⟨#[]⟩ (flds l)) := by
            rw [evl, evl, if_neg (by decide), if_neg (by decide), if_neg (by decide), if_neg (by decide), lit_evls (env := env) hc.1]
          have e3 := evl_op nm 0 0 t n ⟨#[]⟩ s (flds l) l h2
          rw [← e3, ← e2]
      · rw [if_neg hc]
        exact ⟨by rw [srt_op]; exact h1, evl_op nm _ _ _ _ _ _ _ _ h2⟩
    · rw [fld, if_pos hk]
      unfold wf at hw
      rcases hw with hw | hw | hw
      · obtain ⟨rfl, -⟩ := hw
        rw [srt, if_pos rfl] at hs
        rw [srt, if_pos rfl, evl, evl, if_pos rfl, if_pos rfl]
        exact ⟨hs, rfl⟩
      · subst hw
        rw [srt, if_neg (by decide), if_pos rfl] at hs
        rw [srt, if_neg (by decide), if_pos rfl, evl, evl, if_neg (by decide), if_pos rfl, if_neg (by decide), if_pos rfl]
        exact ⟨hs, rfl⟩
      · exact absurd hw.1 hk
theorem folds_same (env : List Bd) (names : List ByteArray) (sorts : List Int) : ∀ (l : List Ex), wfs l → ∀ (inn : Int) (fst : Bool) (out τ : Int), srts names sorts l inn fst out = (τ, 0) → srts names sorts (flds l) inn fst out = (τ, 0) ∧ evls env (flds l) = evls env l
  | [], _, inn, fst, out, τ, hs => ⟨hs, rfl⟩
  | x :: l, hw, inn, fst, out, τ, hs => by
    have hx : srt names sorts x = ((srt names sorts x).1, 0) := (srts_cons hs).1
    obtain ⟨h1, h2⟩ := fold_same env names sorts x hw.1 _ hx
    rw [srts] at hs
    have e0 : (srt names sorts x).2 = 0 := by rw [hx]
    rw [if_neg (by simpa using e0)] at hs
    by_cases b : (srt names sorts x).1 ≠ (if fst = true then (srt names sorts x).1 else inn)
    · rw [if_pos b] at hs; simp at hs
    · rw [if_neg b] at hs
      obtain ⟨h3, h4⟩ := folds_same env names sorts l hw.2 _ _ _ _ hs
      refine ⟨?_, by rw [flds, evls, evls, h2, h4]⟩
      rw [flds, srts, h1]
      simp only [ne_eq, not_true_eq_false, if_false]
      rw [if_neg b]
      exact h3
end
/-- The law, in plain words. -/
theorem fold_law (x : Ex) (env : List Bd) (h : eCheck x = 0) : eCheck (fld x) = 0 ∧ (evalN x env = 0 → evalN (fld x) env = 0 ∧ evalV (fld x) env = evalV x env) := by
  have h1 : eCheck (fld x) = 0 := (chk_fld x 60 h).1
  refine ⟨h1, fun hN => ?_⟩
  have hb : badE env = 0 := by
    unfold evalN at hN
    rw [if_neg (by simpa using h)] at hN
    by_cases hb : badE env = 0
    · exact hb
    · rw [if_pos hb] at hN; exact absurd hN hb
  have e1 : evalN x env = (srt (env.map (·.nm)) (env.map (·.t)) x).2 := by
    unfold evalN; rw [if_neg (by simpa using h), if_neg (by simpa using hb)]
  have e2 : evalN (fld x) env = (srt (env.map (·.nm)) (env.map (·.t)) (fld x)).2 := by
    unfold evalN; rw [if_neg (by simpa using h1), if_neg (by simpa using hb)]
  obtain ⟨h3, h4⟩ := fold_same env (env.map (·.nm)) (env.map (·.t)) x (wf_of_chk x 60 h) _ (Prod.ext rfl (e1.symm.trans hN))
  have h5 : evalN (fld x) env = 0 := by rw [e2, h3]
  refine ⟨h5, ?_⟩
  unfold evalV
  rw [if_pos h5, if_pos hN, h4]
end Go.Proofs.YtiobdkibbhpojaaDoor
