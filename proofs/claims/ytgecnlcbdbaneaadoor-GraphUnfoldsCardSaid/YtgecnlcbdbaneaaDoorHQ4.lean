/- Types that are below each other do the same. -/
import Derived.Test.YtgecnlcbdbaneaaDoorHQ3
set_option linter.unusedVariables false
set_option linter.unusedSimpArgs false
namespace Go.Proofs.YtgecnlcbdbaneaaDoor
open Go.RowKit Go.Sw

/-- What a node's kind asks for, just so. -/
def shp (k so : Int) (ls : List ByteArray) (m : Nat) : Prop :=
  (k = 1 ∧ so = 0 ∧ ls = [] ∧ m = 0) ∨ ((k = 2 ∨ k = 3) ∧ (1 ≤ so ∧ so ≤ 3) ∧ ls = [] ∧ m = 1) ∨ ((k = 4 ∨ k = 5) ∧ so = 0 ∧ ls = [] ∧ m = 2) ∨ ((k = 6 ∨ k = 7) ∧ so = 0 ∧ labelsB ls = true ∧ m = ls.length)
/-- All nodes of a graph are right. -/
def ShG (g : List Nd) : Prop := ∀ x ∈ g, shp x.k x.so x.ls x.to.length
mutual
/-- All parts of a type are right. -/
def shT : Tp → Prop
  | .mk k so nm ls l => (k ≠ 9 → k ≠ 8 → shp k so ls l.length) ∧ shTs l
def shTs : List Tp → Prop
  | [] => True
  | x :: l => shT x ∧ shTs l
end
theorem shTs_of {l : List Tp} (h : ∀ x ∈ l, shT x) : shTs l := by
  induction l with
  | nil => trivial
  | cons x l ih => exact ⟨h x (by simp), ih fun y hy => h y (by simp [hy])⟩
theorem ok_shT {x : Tp} (h : OkT x) : shT x := by
  induction h with
  | nil => exact ⟨fun _ _ => .inl ⟨rfl, rfl, rfl, rfl⟩, trivial⟩
  | pass k so x hk h1 h3 hx ih => exact ⟨fun _ _ => .inr (.inl ⟨hk, ⟨h1, h3⟩, rfl, rfl⟩), ih, trivial⟩
  | give k x y hk hx hy ih1 ih2 => exact ⟨fun _ _ => .inr (.inr (.inl ⟨hk, rfl, rfl, rfl⟩)), ih1, ih2, trivial⟩
  | pick k ls l hk hl hn h ih => exact ⟨fun _ _ => .inr (.inr (.inr ⟨hk, rfl, hl, hn⟩)), shTs_of ih⟩
  | bind nm x hn hx ih => exact ⟨fun _ h => absurd rfl h, ih, trivial⟩
  | var nm hn => exact ⟨fun h => absurd rfl h, trivial⟩
mutual
theorem addT_shp : ∀ (x : Tp) (ns : List ByteArray) (av : List Int) (L : List Nd), shT x → ∀ (i : Nat) (n : Nd), L.length ≤ i → (addT x ns av L).2[i]? = some n → shp n.k n.so n.ls n.to.length
  | .mk k so nm ls l, ns, av, L, hs, i, n, hi, h => by
    unfold shT at hs
    unfold addT at h
    split at h
    · simp only at h
      rw [List.getElem?_eq_none hi] at h; cases h
    split at h
    · cases l with
      | nil => simp only [addF] at h; rw [List.getElem?_eq_none hi] at h; cases h
      | cons x l =>
        simp only [addF] at h
        exact addT_shp x _ _ L hs.2.1 i n hi h
    · rename_i h9 h8
      have hlen := addTs_len l ns av (L ++ [⟨k, so, ls, []⟩])
      simp only [List.length_append, List.length_cons, List.length_nil] at hlen
      simp only at h
      by_cases he : i = L.length
      · subst he
        rw [List.getElem?_set_self (by omega)] at h
        cases h
        simp only
        rw [addTs_to]
        exact hs.1 h9 h8
      · rw [List.getElem?_set_ne (Ne.symm he)] at h
        exact addTs_shp l ns av _ hs.2 i n (by simp; omega) h
theorem addTs_shp : ∀ (l : List Tp) (ns : List ByteArray) (av : List Int) (L : List Nd), shTs l → ∀ (i : Nat) (n : Nd), L.length ≤ i → (addTs l ns av L).2[i]? = some n → shp n.k n.so n.ls n.to.length
  | [], ns, av, L, hs, i, n, hi, h => by
    simp only [addTs] at h
    rw [List.getElem?_eq_none hi] at h; cases h
  | x :: l, ns, av, L, hs, i, n, hi, h => by
    unfold shTs at hs
    simp only [addTs] at h
    by_cases hi2 : i < (addT x ns av L).2.length
    · rw [addTs_keep l ns av _ i hi2] at h
      exact addT_shp x ns av L hs.1 i n hi h
    · exact addTs_shp l ns av _ hs.2 i n (by omega) h
end
/-- What a type does. -/
def trT (x : Tp) (n : Nat) : Tr := obs (rawP x) n 0
theorem raw_sh {x : Tp} (h : tCheck x = 0) : ShG (rawP x) := by
  intro n hn
  obtain ⟨i, hi, rfl⟩ := List.mem_iff_getElem.1 hn
  exact addT_shp x [] [] [] (ok_shT (ok_check h).1) i _ (Nat.zero_le _) (List.getElem?_eq_getElem hi)
theorem ofP_obs {x : Tp} (h : tCheck x = 0) (n : Nat) : obs (ofP x) n 0 = trT x n := by
  obtain ⟨h1, h2, h3, h4, h5, h6⟩ := raw_good h
  unfold ofP
  rw [if_pos h]
  exact least_obs (g := rawP x) h6 h4 n
/-- graph.Same: the same trees. -/
theorem of_iff {x y : Tp} (hx : tCheck x = 0) (hy : tCheck y = 0) : ofP x = ofP y ↔ ∀ n, trT x n = trT y n := by
  obtain ⟨-, -, -, h4, h5, h6⟩ := raw_good hx
  obtain ⟨-, -, -, g4, g5, g6⟩ := raw_good hy
  unfold ofP
  rw [if_pos hx, if_pos hy]
  exact least_iff (g := rawP x) (h := rawP y) h6 h4 g6 g4
end Go.Proofs.YtgecnlcbdbaneaaDoor
