/- Names changed and changed back: plain. -/
import Derived.Test.YtmohkmfimcnfeaaDoorG7
set_option linter.unusedVariables false
set_option linter.unusedSimpArgs false
namespace Go.Proofs.YtmohkmfimcnfeaaDoor
open Go.RowKit Go.Sw

theorem bytes_inj {x y : ByteArray} (h : x.toList = y.toList) : x = y := by
  rw [Lib.toList_data, Lib.toList_data] at h
  obtain ⟨x⟩ := x
  obtain ⟨y⟩ := y
  rw [show x = y from Array.toList_inj.1 h]
theorem inL_iff {l : List ByteArray} {s : ByteArray} : inL l s = true ↔ s ∈ l := by
  unfold inL
  rw [List.any_eq_true]
  constructor
  · rintro ⟨x, hx, h⟩
    rw [bytes_inj (eq_of_beq h)]; exact hx
  · intro h; exact ⟨s, h, by simp⟩
theorem inL_not {l : List ByteArray} {s : ByteArray} : inL l s = false ↔ s ∉ l := by
  rw [← Bool.not_eq_true, inL_iff]
theorem idx_cases (s : ByteArray) : ∀ (l : List ByteArray) (j : Nat), (idxS s.toList l j = -1 ∧ s ∉ l) ∨ ∃ k, l[k]? = some s ∧ idxS s.toList l j = ((j + k : Nat) : Int) ∧ s ∉ l.take k
  | [], j => .inl ⟨rfl, by simp⟩
  | b :: l, j => by
    unfold idxS
    by_cases h : s.toList = b.toList
    · rw [if_pos h]
      exact .inr ⟨0, by rw [bytes_inj h]; rfl, by simp, by simp⟩
    · rw [if_neg h]
      have hne : s ≠ b := fun e => h (by rw [e])
      rcases idx_cases s l (j + 1) with ⟨h1, h2⟩ | ⟨k, h1, h2, h3⟩
      · exact .inl ⟨h1, by simp [hne, h2]⟩
      · refine .inr ⟨k + 1, by simpa using h1, by rw [h2]; omega, ?_⟩
        rw [List.take_succ_cons]
        simp [hne, h3]
/-- A name, changed: it is one of those and its other name, or none and stays. -/
theorem nm_cases (F T : List ByteArray) (h : F.length = T.length) (s : ByteArray) : (s ∉ F ∧ nmF F T s = s) ∨ ∃ k t, F[k]? = some s ∧ T[k]? = some t ∧ nmF F T s = t ∧ s ∉ F.take k := by
  unfold nmF
  rcases idx_cases s F 0 with ⟨h1, h2⟩ | ⟨k, h1, h2, h3⟩
  · exact .inl ⟨h2, by rw [h1, if_neg (by decide)]⟩
  · have hk := (List.getElem?_eq_some_iff.1 h1).1
    obtain ⟨t, ht⟩ : ∃ t, T[k]? = some t := ⟨T[k]'(by omega), by simp⟩
    refine .inr ⟨k, t, h1, ht, ?_, h3⟩
    rw [h2, Nat.zero_add, if_pos (by omega), Int.toNat_natCast]
    simp [List.getD, ht]
theorem ok_at {F T : List ByteArray} (hp : renOk F T) (h : F.length = T.length) {j : Nat} {f t : ByteArray} (hf : F[j]? = some f) (ht : T[j]? = some t) : isRoleB f = true ∧ isRoleB t = true ∧ f ∉ F.take j := by
  have := hp j (List.getElem?_eq_some_iff.1 hf).1
  unfold renBad at this
  rw [show F.getD j noB = f from by simp [List.getD, hf], show T.getD j noB = t from by simp [List.getD, ht]] at this
  by_cases h1 : isRoleB f = true
  · rw [if_pos h1] at this
    by_cases h2 : isRoleB t = true
    · rw [if_pos h2] at this
      exact ⟨h1, h2, inL_not.1 this⟩
    · rw [if_neg h2] at this; cases this
  · rw [if_neg h1] at this; cases this
theorem nm_none {F T : List ByteArray} (hp : renOk F T) (h : F.length = T.length) : nmF F T noB = noB := by
  rcases nm_cases F T h noB with ⟨-, h2⟩ | ⟨k, t, h1, h2, h3, -⟩
  · exact h2
  · have := (ok_at hp h h1 h2).1
    exact absurd this (by decide +kernel)
theorem nm_role {F T : List ByteArray} (hp : renOk F T) (h : F.length = T.length) {s : ByteArray} (hs : isRoleB s = true) : isRoleB (nmF F T s) = true := by
  rcases nm_cases F T h s with ⟨-, h2⟩ | ⟨k, t, h1, h2, h3, -⟩
  · rw [h2]; exact hs
  · rw [h3]; exact (ok_at hp h h1 h2).2.1
theorem rolesF_ren {F T : List ByteArray} (hp : renOk F T) (h : F.length = T.length) {g : Gt} (hg : gCheck g = 0) (hx : gCheck (ren (nmF F T) g) = 0) : (rolesF (ren (nmF F T) g)).length ≤ (rolesF g).length := by
  unfold rolesF
  rw [if_pos hg, if_pos hx, ren_roles (nm_none hp h) (fun s hs => nm_role hp h hs) (okG_check hg).1]
  exact names_fewer _ _
theorem mem_take {α : Type} {l : List α} {k n : Nat} {x : α} (h : k < n) (hx : l[k]? = some x) : x ∈ l.take n :=
  List.mem_of_getElem? (i := k) (by rw [List.getElem?_take_of_lt h]; exact hx)
/-- No two become one. -/
def apartN (F T : List ByteArray) (A : List ByteArray) (n : Nat) : Prop := ∀ j t, j < n → T[j]? = some t → t ∉ T.take j ∧ (t ∈ A → t ∈ F)
theorem back_at {F T : List ByteArray} (hp : renOk F T) (h : F.length = T.length) {A : List ByteArray} (ha : apartN F T A T.length) {s : ByteArray} (hs : s ∈ A) : nmF T F (nmF F T s) = s := by
  rcases nm_cases F T h s with ⟨h1, h2⟩ | ⟨k, t, h1, h2, h3, h4⟩
  · rw [h2]
    rcases nm_cases T F h.symm s with ⟨-, g2⟩ | ⟨k, t, g1, g2, g3, -⟩
    · exact g2
    · exact absurd ((ha k s (List.getElem?_eq_some_iff.1 g1).1 g1).2 hs) h1
  · rw [h3]
    rcases nm_cases T F h.symm t with ⟨g1, -⟩ | ⟨k', t', g1, g2, g3, g4⟩
    · exact absurd (List.mem_of_getElem? h2) g1
    · rw [g3]
      have hkk : k' = k := by
        rcases Nat.lt_trichotomy k' k with q | q | q
        · exfalso
          exact (ha k t (List.getElem?_eq_some_iff.1 h2).1 h2).1 (mem_take q g1)
        · exact q
        · exfalso
          exact g4 (mem_take q h2)
      subst hkk
      rw [h1] at g2
      exact (Option.some.inj g2).symm
theorem ren_twice {F T : List ByteArray} (hp : renOk F T) (h : F.length = T.length) {g : Gt} (hg : gCheck g = 0) (hx : gCheck (ren (nmF F T) g) = 0) (ha : apartN F T (rolesF g) T.length) [Decidable (renOk T F)] :
    renR (ren (nmF F T) g) T F (renOk T F) = (g, 0) ∧ (rolesF (ren (nmF F T) g)).length = (rolesF g).length := by
  have hok := (okG_check hg).1
  have hA : ∀ s ∈ rolesL g, s ∈ rolesF g := fun s hs => by
    unfold rolesF
    rw [if_pos hg, compS_mem, sortS_mem]; exact hs
  have hp2 : renOk T F := fun j hj => by
    obtain ⟨t, ht⟩ : ∃ t, T[j]? = some t := ⟨T[j], by simp [hj]⟩
    obtain ⟨f, hf⟩ : ∃ f, F[j]? = some f := ⟨F[j]'(by omega), by simp⟩
    obtain ⟨q1, q2, -⟩ := ok_at hp h hf ht
    unfold renBad
    rw [show F.getD j noB = f from by simp [List.getD, hf], show T.getD j noB = t from by simp [List.getD, ht], if_pos q2, if_pos q1]
    exact inL_not.2 (ha j t hj ht).1
  have hb : ren (nmF T F) (ren (nmF F T) g) = g := ren_back (nm_none hp h) (nm_none hp2 h.symm) hok fun s hs => back_at hp h ha (hA s hs)
  refine ⟨?_, ?_⟩
  · unfold renR
    rw [if_neg (by simpa using hx), if_neg (by simpa using h.symm), if_neg (not_not_intro hp2), hb, if_neg (by simpa using hg)]
  · have h1 := rolesF_ren hp h hg hx
    have h2 := rolesF_ren hp2 h.symm (g := ren (nmF F T) g) hx (by rw [hb]; exact hg)
    rw [hb] at h2
    omega
end Go.Proofs.YtmohkmfimcnfeaaDoor
