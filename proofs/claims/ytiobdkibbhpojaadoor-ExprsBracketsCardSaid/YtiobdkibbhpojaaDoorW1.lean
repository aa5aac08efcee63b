/- values.Check and values.Order return what vcheck and vord say; nothing that was there is changed. The tables of unicode slash utf8 read as laid. -/
import Derived.Test.YtiobdkibbhpojaaDoorW2
import Derived.Lib.ValidU
import Derived.Deep.RegionHeld3
import Derived.Shelf.Unicode.DecodeSlow
set_option linter.unusedVariables false
set_option linter.unusedSimpArgs false
namespace Go.Proofs.YtiobdkibbhpojaaDoor
open Go.RowKit

/-- values.Check as a function. -/
def vcheck (t n : Int) (s : ByteArray) : Int :=
  if t = 1 then (if s.toList = [] then 0 else 1)
  else if t = 2 then (if s.toList = [] then (if n = 0 ∨ n = 1 then 0 else 1) else 1)
  else if t = 3 then (if n = 0 then (if (100 : Int) < s.size then 2 else if Lib.validD s.data.toList = true then 0 else 1) else 1) else 1

def Tabs (w : World) : Prop := Lib.Utf8Tabs 0 1 w
theorem Tabs.below {w w' : World} (h : Tabs w) (hb : Below w.heap.size w w') : Tabs w' := Utf8Tabs_below h hb
theorem Tabs.alloc {w : World} (h : Tabs w) (o : Obj) : Tabs (w.alloc o) := h.below ((Below.refl _ _).alloc (Nat.le_refl _) _)

def Said.ValidString : Prop := ∀ (s : ByteArray) (w : World), s.size ≤ 9223372036854775807 → Tabs w →
    Calls Tryd.prog 50 #[.string s] w fun e w' => e = .returned (.bool (Lib.validD s.data.toList)) ∧ Below w.heap.size w w'

theorem bcell {W w1 : World} (hb : Below W.heap.size W w1) : (∀ b o, b < W.heap.size → w1.cell? ⟨b, o, none⟩ = W.cell? ⟨b, o, none⟩) ∧ (∀ b o, b < W.heap.size → w1.frozen? ⟨b, o, none⟩ = W.frozen? ⟨b, o, none⟩) :=
  ⟨fun b o h => hb.cell (p := ⟨b, o, none⟩) h, fun b o h => hb.frozen (p := ⟨b, o, none⟩) h⟩

set_option maxHeartbeats 400000 in
theorem check_any (hv : Said.ValidString) (t n : Int) (s : ByteArray) (w : World) (ht : Tabs w) :
    Calls Tryd.prog 22 #[.agg #[.int .i64 t, .int .i64 n, .string s]] w fun e w' => e = .returned (.int .i64 (vcheck t n s)) ∧ Below w.heap.size w w' := by
  go_enter Tryd.func22, Tryd.ntmps22
  go_wp2_with (go_at_call 50; refine (hv s _ (by omega) (Tabs.alloc ht _)).mono ?_; rintro e w1 ⟨rfl, hb⟩)
  all_goals go_ret
  all_goals refine ⟨?_, ?_⟩
  all_goals first
    | exact (Below.refl _ _).alloc (Nat.le_refl _) _
    | exact ((Below.refl _ _).alloc (Nat.le_refl _) _).trans (hb.mono (by simp))
    | (simp_all [vcheck]; done)
    | (simp_all [vcheck]; omega)

/-- what Order tells, by the errors of both. -/
def ordN (e1 e2 o : Int) : Int := if e1 ≠ 0 then 0 else if e2 ≠ 0 then 0 else o
def ordE (e1 e2 : Int) : Int := if e1 ≠ 0 then e1 else e2
def vord (t n : Int) (s : ByteArray) (t' n' : Int) (s' : ByteArray) : Int := or3 (cmpI t t') (cmpI n n') (cmpS s s')

set_option maxHeartbeats 400000 in
theorem order_any (hv : Said.ValidString) (t n t' n' : Int) (s s' : ByteArray) (w : World) (ht : Tabs w) :
    Calls Tryd.prog 12 #[.agg #[.int .i64 t, .int .i64 n, .string s], .agg #[.int .i64 t', .int .i64 n', .string s']] w fun e w' =>
      e = .returned (.tuple #[.int .i64 (ordN (vcheck t n s) (vcheck t' n' s') (vord t n s t' n' s')), .int .i64 (ordE (vcheck t n s) (vcheck t' n' s'))]) ∧ Below w.heap.size w w' := by
  have h1 := check_any hv t n s
  have h2 := check_any hv t' n' s'
  generalize vcheck t n s = e1 at h1 ⊢
  generalize vcheck t' n' s' = e2 at h2 ⊢
  have H1 := Lib.hid h1
  have H2 := Lib.hid h2
  have Ht := Lib.hid ht
  clear h1 h2 ht
  go_enter Tryd.func12, Tryd.ntmps12
  go_wp2_with (first
    | (go_at_call_of 22 t; refine (H1.out _ (Ht.out.below (((Below.refl _ _).alloc (Nat.le_refl _) _).alloc (by simp) _))).mono ?_; rintro e w1 ⟨rfl, hb1⟩; obtain ⟨hc1, hf1⟩ := bcell hb1; have hB1 : Below w.heap.size w w1 := ((((Below.refl _ _).alloc (Nat.le_refl _) _).alloc (by simp) _).trans (hb1.mono (by simp; omega))); have hz1 : w.heap.size + 1 < w1.heap.size := (by have := hb1.size; simp at this; omega); have hy1 : w.heap.size < w1.heap.size := (by omega))
    | (go_at_call_of 22 t'; refine (H2.out _ (Ht.out.below hB1)).mono ?_; rintro e w2 ⟨rfl, hb2⟩; obtain ⟨hc2, hf2⟩ := bcell hb2; have hB2 : Below w.heap.size w w2 := hB1.trans (hb2.mono (by omega)); have hz2 : w.heap.size + 1 < w2.heap.size := (by have := hb2.size; omega); have hy2 : w.heap.size < w2.heap.size := (by omega)))
  · go_ret2
    refine ⟨?_, hB1⟩
    simp_all [ordN, ordE]
  · go_ret2
    refine ⟨?_, hB2⟩
    simp_all [ordN, ordE]
  · go_region_held3 (fun w' => w'.cell? ⟨w.heap.size, 0, none⟩ = some (.int .i64 t) ∧ w'.cell? ⟨w.heap.size, 1, none⟩ = some (.int .i64 n) ∧ w'.cell? ⟨w.heap.size, 2, none⟩ = some (.string s) ∧ w'.cell? ⟨w.heap.size + 1, 0, none⟩ = some (.int .i64 t') ∧ w'.cell? ⟨w.heap.size + 1, 1, none⟩ = some (.int .i64 n') ∧ w'.cell? ⟨w.heap.size + 1, 2, none⟩ = some (.string s')) (first | go_simp | go_keep)
     (first
      | (go_at_call 38; refine (cmp_int _ _ _).mono ?_; rintro e w3 ⟨rfl, rfl⟩)
      | (go_at_call 39; refine (cmp_int64 _ _ _).mono ?_; rintro e w3 ⟨rfl, rfl⟩)
      | (go_at_call 40; refine (cmp_str _ _ _).mono ?_; rintro e w3 ⟨rfl, rfl⟩)
      | (go_at_call 37; refine (or_int _ _ (cmpI t t') (cmpI n n') (cmpS s s') _ (by go_simp) (by go_simp) (by go_simp)).mono ?_; rintro e w3 ⟨rfl, rfl⟩))
    go_wp2
    go_ret2
    refine ⟨?_, ?_⟩
    · simp_all [ordN, ordE, vord]
    · exact (hB2.alloc (by omega) _).drew
end Go.Proofs.YtiobdkibbhpojaaDoor
