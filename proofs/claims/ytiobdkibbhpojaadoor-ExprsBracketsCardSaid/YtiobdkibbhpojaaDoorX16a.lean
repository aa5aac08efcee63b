/- Arguments of the laws on expressions, as plain data. -/
import Derived.Test.YtiobdkibbhpojaaDoorX1
import Derived.Test.YtiobdkibbhpojaaDoorSwC
set_option linter.unusedVariables false
set_option linter.unusedSimpArgs false
namespace Go.Proofs.YtiobdkibbhpojaaDoor
open Go.RowKit Go.Sw

def TT : List TypeId := [35, 36, 45, 23, 33, 3, 9, 2]
theorem TT_ok : TT.all (okT Tryd.prog TT) = true := by kernel_rfl
abbrev small (s : ByteArray) : Prop := s.size ≤ reachBytes
theorem ty3 {m : Nat} {ds : List D} (h : Ty Tryd.prog m 3 ds) : ∃ i, ds = [iD i] ∧ (Lit.int .i64 i).wf = true := ty_int un3 h
theorem ty9 {m : Nat} {ds : List D} (h : Ty Tryd.prog m 9 ds) : ∃ s, ds = [sD s] ∧ small s := ty_str un9 h
theorem ty23 {m : Nat} {ds : List D} (h : Ty Tryd.prog m 23 ds) : ∃ v : Va, ds = [iD v.t, iD v.n, sD v.s] ∧ small v.s ∧ (Lit.int .i64 v.t).wf = true ∧ (Lit.int .i64 v.n).wf = true := by
  obtain ⟨m', rfl, a, b, rfl, h1, a2, b2, rfl, h2, a3, b3, rfl, h3, rfl⟩ := ty_struct Tryd.underlying23 h
  obtain ⟨t, rfl, wt⟩ := ty_int un3 h1
  obtain ⟨n, rfl, wn⟩ := ty_int un2 h2
  obtain ⟨s, rfl, hs⟩ := ty_str un9 h3
  exact ⟨⟨t, n, s⟩, rfl, hs, wt, wn⟩
mutual
/-- What an expression that comes in is bound by. -/
def Ex.bound : Ex → Prop
  | .mk k nm t n s l => (Lit.int .i64 k).wf = true ∧ small nm ∧ small s ∧ (Lit.int .i64 t).wf = true ∧ (Lit.int .i64 n).wf = true ∧ l.length * 80 ≤ reachBytes ∧ Ex.bounds l
def Ex.bounds : List Ex → Prop
  | [] => True
  | x :: l => Ex.bound x ∧ Ex.bounds l
end
theorem bounds_of : ∀ {l : List Ex}, (∀ x ∈ l, x.bound) → Ex.bounds l
  | [], _ => trivial
  | x :: l, h => ⟨h x (by simp), bounds_of fun y hy => h y (by simp [hy])⟩
theorem exds_map : ∀ l : List Ex, Ex.ds l = l.map Ex.d
  | [] => rfl
  | x :: l => by simp [Ex.ds, exds_map l]
set_option maxRecDepth 100000 in
theorem ty35 : ∀ (m : Nat) {ds : List D}, Ty Tryd.prog m 35 ds → ∃ x : Ex, D.agg ds = x.d ∧ x.bound
  | 0, ds, h => h.elim
  | m + 1, ds, h => by
    obtain ⟨m', hm, a, b, rfl, h1, a2, b2, rfl, h2, a3, b3, rfl, h3, a4, b4, rfl, h4, rfl⟩ := ty_struct Tryd.underlying35 h
    obtain rfl : m' = m := by omega
    obtain ⟨k, rfl, wk⟩ := ty3 h1
    obtain ⟨nm, rfl, hn⟩ := ty9 h2
    obtain ⟨v, rfl, hs, wt, wn⟩ := ty23 h3
    obtain ⟨L, m'', rfl, rfl, hl, hx⟩ := ty_slc un33 h4
    obtain ⟨l, rfl, he⟩ := map_of (f := Ex.d) (p := Ex.bound) (L := L) fun x hm => by
      obtain ⟨xs, h5, rfl⟩ := hx x hm
      obtain ⟨y, h6, h7⟩ := ty35 m'' h5
      exact ⟨y, by rw [mkD_struct Tryd.underlying35, h6], h7⟩
    have hb : Tryd.prog.bytesOf 35 = 80 := by kernel_rfl
    rw [hb, List.length_map] at hl
    refine ⟨.mk k nm v.t v.n v.s l, by rw [← exds_map]; rfl, ?_⟩
    unfold Ex.bound
    exact ⟨wk, hn, hs, wt, wn, hl, bounds_of he⟩
section
variable {H : Type} {enc : TypeId × Value → H} {W : World} {r : Reach} {base b0 : Nat} {sp : Nat → Bool} {held : Bool} {v : Value} {d : DataW H} {p : List MemPlace}
set_option maxRecDepth 100000 in
theorem open35 (hv : Value.okWide Tryd.prog W r base 35 v) (h : DataW.Trod enc Tryd.prog W b0 sp held 35 v d p) (hw : (d.weights Tryd.prog 35).all (· ≤ reachBytes) = true) : ∃ x : Ex, RpD W M0 (.d x.d v) ∧ x.bound := by
  obtain ⟨m, xs, h1, h2⟩ := open_top TT_ok (by decide) hv h hw
  rw [mkD_struct Tryd.underlying35] at h2
  obtain ⟨x, h3, h4⟩ := ty35 m h1
  rw [h3] at h2
  exact ⟨x, h2, h4⟩
set_option maxRecDepth 100000 in
theorem open9 (hv : Value.okWide Tryd.prog W r base 9 v) (h : DataW.Trod enc Tryd.prog W b0 sp held 9 v d p) (hw : (d.weights Tryd.prog 9).all (· ≤ reachBytes) = true) : ∃ s : ByteArray, RpD W M0 (.d (sD s) v) ∧ small s := by
  obtain ⟨m, xs, h1, h2⟩ := open_top TT_ok (by decide) hv h hw
  obtain ⟨s, rfl, h3⟩ := ty9 h1
  rw [mkD_one (by simp [un9])] at h2
  exact ⟨s, h2, h3⟩
set_option maxRecDepth 100000 in
theorem open3 (hv : Value.okWide Tryd.prog W r base 3 v) (h : DataW.Trod enc Tryd.prog W b0 sp held 3 v d p) (hw : (d.weights Tryd.prog 3).all (· ≤ reachBytes) = true) : ∃ n : Int, RpD W M0 (.d (iD n) v) ∧ (Lit.int .i64 n).wf = true := by
  obtain ⟨m, xs, h1, h2⟩ := open_top TT_ok (by decide) hv h hw
  obtain ⟨s, rfl, h3⟩ := ty3 h1
  rw [mkD_one (by simp [un3])] at h2
  exact ⟨s, h2, h3⟩
set_option maxRecDepth 100000 in
theorem open23 (hv : Value.okWide Tryd.prog W r base 23 v) (h : DataW.Trod enc Tryd.prog W b0 sp held 23 v d p) (hw : (d.weights Tryd.prog 23).all (· ≤ reachBytes) = true) : ∃ x : Va, RpD W M0 (.d (vD x) v) ∧ small x.s ∧ (Lit.int .i64 x.t).wf = true ∧ (Lit.int .i64 x.n).wf = true := by
  obtain ⟨m, xs, h1, h2⟩ := open_top TT_ok (by decide) hv h hw
  obtain ⟨x, rfl, h3⟩ := ty23 h1
  rw [mkD_struct Tryd.underlying23] at h2
  exact ⟨x, h2, h3⟩
end
theorem tabs_big {W : World} (h : Tabs W) : 2 ≤ W.heap.size := by
  have : (1 : Nat) < W.heap.size := World.block_lt_of_cell? _ _ (h.2 0 (by omega)).1
  omega
end Go.Proofs.YtiobdkibbhpojaaDoor
