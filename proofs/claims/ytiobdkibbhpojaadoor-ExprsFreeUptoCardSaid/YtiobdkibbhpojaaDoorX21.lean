/- A value in the place of a name: plain laws. -/
import Derived.Test.YtiobdkibbhpojaaDoorX10
import Derived.Test.YtiobdkibbhpojaaDoorX14
import Derived.Test.YtiobdkibbhpojaaDoorX20
set_option linter.unusedVariables false
set_option linter.unusedSimpArgs false
namespace Go.Proofs.YtiobdkibbhpojaaDoor
open Go.RowKit Go.Sw

/-- The last binding of a name. -/
def lastB (nm : List UInt8) : List Bd → Option Bd
  | [] => none
  | b :: l => match lastB nm l with
    | some c => some c
    | none => if b.nm.toList = nm then some b else none
theorem lastB_app (nm : List UInt8) : ∀ a b : List Bd, lastB nm (a ++ b) = match lastB nm b with | some c => some c | none => lastB nm a
  | [], b => by
    simp only [List.nil_append, lastB]
    cases lastB nm b <;> rfl
  | x :: a, b => by
    simp only [List.cons_append, lastB, lastB_app nm a b]
    cases lastB nm b <;> rfl
theorem lastB_look (nm : List UInt8) (env : List Bd) : ∀ m, m ≤ env.length → look (env.map (·.nm)) (env.map (·.t)) nm m = (match lastB nm (env.take m) with | some b => (b.t, 0) | none => (0, 4))
  | 0, _ => by simp [look, lastB]
  | m + 1, hm => by
    have hlt : m < env.length := by omega
    have e1 : (env.map (·.nm)).getD m ByteArray.empty = (env.getD m Bd.zero).nm := by simp [List.getD, hlt]
    have e2 : (env.map (·.t)).getD m 0 = (env.getD m Bd.zero).t := by simp [List.getD, hlt]
    have e3 : env.take (m + 1) = env.take m ++ [env.getD m Bd.zero] := by
      rw [List.take_add_one, List.getElem?_eq_getElem hlt]; simp [List.getD, hlt]
    unfold look
    rw [e1, e2, e3, lastB_app]
    by_cases hc : (env.getD m Bd.zero).nm.toList = nm
    · simp only [lastB]; rw [if_pos hc, if_pos hc]
    · simp only [lastB]; rw [if_neg hc, if_neg hc]
      exact lastB_look nm env m (by omega)
theorem lastB_lookB (nm : List UInt8) (env : List Bd) : ∀ m, m ≤ env.length → lookB env nm m = (match lastB nm (env.take m) with | some b => b | none => Bd.zero)
  | 0, _ => by simp [lookB, lastB]
  | m + 1, hm => by
    have hlt : m < env.length := by omega
    have e3 : env.take (m + 1) = env.take m ++ [env.getD m Bd.zero] := by
      rw [List.take_add_one, List.getElem?_eq_getElem hlt]; simp [List.getD, hlt]
    unfold lookB
    rw [e3, lastB_app]
    by_cases hc : (env.getD m Bd.zero).nm.toList = nm
    · simp only [lastB]; rw [if_pos hc, if_pos hc]
    · simp only [lastB]; rw [if_neg hc, if_neg hc]
      exact lastB_lookB nm env m (by omega)
theorem look_all (nm : List UInt8) (env : List Bd) : look (env.map (·.nm)) (env.map (·.t)) nm (env.map (·.nm)).length = (match lastB nm env with | some b => (b.t, 0) | none => (0, 4)) := by
  rw [List.length_map, lastB_look nm env env.length (Nat.le_refl _), List.take_length]
theorem lookB_all (nm : List UInt8) (env : List Bd) : lookB env nm env.length = (match lastB nm env with | some b => b | none => Bd.zero) := by
  rw [lastB_lookB nm env env.length (Nat.le_refl _), List.take_length]
abbrev srtE (env : List Bd) (x : Ex) : Int × Int := srt (env.map (·.nm)) (env.map (·.t)) x
abbrev srtsE (env : List Bd) (l : List Ex) (inn : Int) (fst : Bool) (out : Int) : Int × Int := srts (env.map (·.nm)) (env.map (·.t)) l inn fst out
theorem srtsE_cons (env : List Bd) (x : Ex) (l : List Ex) (inn : Int) (fst : Bool) (out : Int) : srtsE env (x :: l) inn fst out =
    if (srtE env x).2 ≠ 0 then (0, (srtE env x).2) else if (srtE env x).1 ≠ (if fst then (srtE env x).1 else inn) then (0, 5) else srtsE env l (if fst then (srtE env x).1 else inn) false out := by
  simp only [srtsE, srtE]
  rw [srts]

mutual
theorem srt_put (name : ByteArray) (v : Va) (env : List Bd) : ∀ x : Ex, srtE env (pt name v x) = srtE (env ++ [⟨name, v.t, v.n, v.s⟩]) x
  | .mk k nm t n s l => by
    unfold pt
    by_cases h : k = 2 ∧ nm.toList = name.toList
    · rw [if_pos h]
      obtain ⟨rfl, hn⟩ := h
      unfold Ex.ofVa
      simp only [srtE]
      rw [srt, if_pos rfl, srt, if_neg (by decide), if_pos rfl, look_all, lastB_app]
      simp only [lastB]
      rw [if_pos hn.symm]
    · rw [if_neg h]
      simp only [srtE]
      rw [srt, srt]
      by_cases h1 : k = 1
      · rw [if_pos h1, if_pos h1]
      · rw [if_neg h1, if_neg h1]
        by_cases h2 : k = 2
        · rw [if_pos h2, if_pos h2, look_all, look_all, lastB_app]
          simp only [lastB]
          rw [if_neg (fun q => h ⟨h2, q.symm⟩)]
        · rw [if_neg h2, if_neg h2]
          exact srts_put name v env l _ _ _
theorem srts_put (name : ByteArray) (v : Va) (env : List Bd) : ∀ (l : List Ex) (inn : Int) (fst : Bool) (out : Int), srtsE env (pts name v l) inn fst out = srtsE (env ++ [⟨name, v.t, v.n, v.s⟩]) l inn fst out
  | [], _, _, _ => rfl
  | x :: l, inn, fst, out => by
    rw [pts, srtsE_cons, srtsE_cons, srt_put name v env x]
    simp only [srts_put name v env l]
end
mutual
theorem evl_put (name : ByteArray) (v : Va) (env : List Bd) : ∀ x : Ex, evl env (pt name v x) = evl (env ++ [⟨name, v.t, v.n, v.s⟩]) x
  | .mk k nm t n s l => by
    unfold pt
    by_cases h : k = 2 ∧ nm.toList = name.toList
    · rw [if_pos h]
      obtain ⟨rfl, hn⟩ := h
      unfold Ex.ofVa
      rw [evl, if_pos rfl, evl, if_neg (by decide), if_pos rfl, lookB_all, lastB_app]
      simp only [lastB]
      rw [if_pos hn.symm]
      rfl
    · rw [if_neg h, evl, evl]
      by_cases h1 : k = 1
      · rw [if_pos h1, if_pos h1]
      · rw [if_neg h1, if_neg h1]
        by_cases h2 : k = 2
        · rw [if_pos h2, if_pos h2, lookB_all, lookB_all, lastB_app]
          simp only [lastB]
          rw [if_neg (fun q => h ⟨h2, q.symm⟩)]
        · rw [if_neg h2, if_neg h2, evls_put name v env l]
theorem evls_put (name : ByteArray) (v : Va) (env : List Bd) : ∀ l : List Ex, evls env (pts name v l) = evls (env ++ [⟨name, v.t, v.n, v.s⟩]) l
  | [] => rfl
  | x :: l => by rw [pts, evls, evls, evl_put name v env x, evls_put name v env l]
end
theorem pts_len (name : ByteArray) (v : Va) (l : List Ex) : (pts name v l).length = l.length := by rw [pts_map, List.length_map]
mutual
theorem chk_put (name : ByteArray) (v : Va) (hv : vcheck v.t v.n v.s = 0) : ∀ (x : Ex) (a : Int), (chk x a).1 = 0 → chk (pt name v x) a = chk x a
  | .mk k nm t n s l, a, h => by
    have h' := h
    unfold chk at h
    unfold pt
    by_cases c0 : a - 1 < 0
    · rw [if_pos c0] at h; simp at h
    · rw [if_neg c0] at h
      by_cases hp : k = 2 ∧ nm.toList = name.toList
      · rw [if_pos hp]
        obtain ⟨rfl, hn⟩ := hp
        rw [if_neg (by simp)] at h
        by_cases c3 : (2 : Int) = 2 ∧ bareB t n s = true ∧ l.length = 0 ∧ isNameB nm = true
        · unfold Ex.ofVa
          rw [chk, if_neg c0, if_pos ⟨rfl, emptyL, rfl⟩, hv, chk, if_neg c0, if_neg (by simp), if_pos c3]
        · rw [if_neg c3, if_neg (by simp)] at h; simp at h
      · rw [if_neg hp]
        rw [chk, chk, if_neg c0, if_neg c0, pts_len]
        by_cases c2 : k = 1 ∧ nm.toList = [] ∧ l.length = 0
        · rw [if_pos c2, if_pos c2]
        · rw [if_neg c2] at h
          rw [if_neg c2, if_neg c2]
          by_cases c3 : k = 2 ∧ bareB t n s = true ∧ l.length = 0 ∧ isNameB nm = true
          · rw [if_pos c3, if_pos c3]
          · rw [if_neg c3] at h
            rw [if_neg c3, if_neg c3]
            by_cases c4 : k = 3 ∧ bareB t n s = true ∧ opB nm l.length = true
            · rw [if_pos c4] at h
              rw [if_pos c4, if_pos c4]
              exact chks_put name v hv l _ h
            · rw [if_neg c4] at h; simp at h
theorem chks_put (name : ByteArray) (v : Va) (hv : vcheck v.t v.n v.s = 0) : ∀ (l : List Ex) (a : Int), (chks l a).1 = 0 → chks (pts name v l) a = chks l a
  | [], a, h => rfl
  | x :: l, a, h => by
    unfold chks at h
    by_cases c : (chk x a).1 ≠ 0
    · rw [if_pos c] at h; exact absurd h c
    · have c' : (chk x a).1 = 0 := by omega
      rw [if_neg c] at h
      rw [pts, chks, chks, chk_put name v hv x a c', if_neg c, if_neg c]
      exact chks_put name v hv l _ h
end
mutual
theorem coll_put (name : ByteArray) (v : Va) : ∀ x : Ex, ∀ c ∈ coll (pt name v x), c.toList ≠ name.toList
  | .mk k nm t n s l, c, hc => by
    unfold pt at hc
    by_cases hp : k = 2 ∧ nm.toList = name.toList
    · rw [if_pos hp] at hc
      unfold Ex.ofVa coll at hc
      simp [colls] at hc
    · rw [if_neg hp] at hc
      unfold coll at hc
      rcases List.mem_append.1 hc with hc | hc
      · by_cases h2 : k = 2
        · rw [if_pos h2] at hc
          obtain rfl : c = nm := by simpa using hc
          exact fun q => hp ⟨h2, q⟩
        · rw [if_neg h2] at hc; simp at hc
      · exact colls_put name v l c hc
theorem colls_put (name : ByteArray) (v : Va) : ∀ l : List Ex, ∀ c ∈ colls (pts name v l), c.toList ≠ name.toList
  | [], c, hc => by simp [pts, colls] at hc
  | x :: l, c, hc => by
    rw [pts, colls] at hc
    rcases List.mem_append.1 hc with hc | hc
    · exact coll_put name v x c hc
    · exact colls_put name v l c hc
end
theorem badE_app (b : Bd) (hb : vcheck b.t b.n b.s = 0) : ∀ l : List Bd, badE (l ++ [b]) = badE l
  | [] => by simp [badE, hb]
  | a :: l => by rw [List.cons_append, badE_cons, badE_cons, badE_app b hb l]
/-- The law, in plain words. -/
theorem put_law (x : Ex) (name : ByteArray) (v : Va) (env : List Bd) (hx : eCheck x = 0) (hv : vcheck v.t v.n v.s = 0) :
    eCheck (pt name v x) = 0 ∧ evalN (pt name v x) env = evalN x (env ++ [⟨name, v.t, v.n, v.s⟩]) ∧ evalV (pt name v x) env = evalV x (env ++ [⟨name, v.t, v.n, v.s⟩]) := by
  have h1 : eCheck (pt name v x) = 0 := by unfold eCheck at hx ⊢; rw [chk_put name v hv x 60 hx]; exact hx
  have h2 : evalN (pt name v x) env = evalN x (env ++ [⟨name, v.t, v.n, v.s⟩]) := by
    unfold evalN
    rw [h1, hx, badE_app ⟨name, v.t, v.n, v.s⟩ hv env]
    have := srt_put name v env x
    simp only [srtE] at this
    rw [this]
  refine ⟨h1, h2, ?_⟩
  unfold evalV
  rw [h2, evl_put]
end Go.Proofs.YtiobdkibbhpojaaDoor
