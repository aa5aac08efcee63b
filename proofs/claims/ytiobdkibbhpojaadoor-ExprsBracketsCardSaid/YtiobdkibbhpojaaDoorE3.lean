/- The small functions of package exprs return what the plain functions beside them say. No conditions but on lengths. -/
import Derived.Test.YtiobdkibbhpojaaDoorW3
import Derived.Test.YtiobdkibbhpojaaDoorShelf3
set_option linter.unusedVariables false
set_option linter.unusedSimpArgs false
namespace Go.Proofs.YtiobdkibbhpojaaDoor
open Go.RowKit

def levelL (l : List UInt8) : Int :=
  if l = [111, 114] then 1 else if l = [97, 110, 100] then 2 else if l = [61, 61] ∨ l = [60] ∨ l = [60, 61] then 3
  else if l = [43] ∨ l = [45] ∨ l = [43, 43] then 4 else if l = [42] ∨ l = [47] ∨ l = [37] then 5 else 0
def singleL (l : List UInt8) : Bool := l == [110, 111, 116] || l == [110, 101, 103] || l == [35]
/-- what sorts an operator is of, and what comes of it. -/
def inL (l : List UInt8) : Int := if l = [111, 114] ∨ l = [97, 110, 100] ∨ l = [110, 111, 116] then 2 else if l = [61, 61] ∨ l = [60] ∨ l = [60, 61] then 0 else if l = [43, 43] ∨ l = [35] then 3 else 1
def outL (l : List UInt8) : Int := if l = [111, 114] ∨ l = [97, 110, 100] ∨ l = [110, 111, 116] ∨ l = [61, 61] ∨ l = [60] ∨ l = [60, 61] then 2 else if l = [43, 43] then 3 else 1

set_option maxHeartbeats 1000000 in
theorem level_any (s : ByteArray) (w : World) : Calls Tryd.prog 91 #[.string s] w fun e w' => e = .returned (.int .i64 (levelL s.toList)) ∧ w = w' := by
  go_enter Tryd.func91, Tryd.ntmps91
  go_wp2
  all_goals go_ret
  all_goals refine ⟨?_, rfl⟩
  all_goals simp_all [levelL]

set_option maxHeartbeats 1000000 in
theorem single_any (s : ByteArray) (w : World) : Calls Tryd.prog 100 #[.string s] w fun e w' => e = .returned (.bool (singleL s.toList)) ∧ w = w' := by
  go_enter Tryd.func100, Tryd.ntmps100
  go_wp2
  all_goals go_ret
  all_goals refine ⟨?_, rfl⟩
  all_goals simp_all [singleL]

set_option maxHeartbeats 1000000 in
theorem takes_any (s : ByteArray) (w : World) : Calls Tryd.prog 75 #[.string s] w fun e w' => e = .returned (.tuple #[.int .i64 (inL s.toList), .int .i64 (outL s.toList)]) ∧ w = w' := by
  go_enter Tryd.func75, Tryd.ntmps75
  go_wp2
  all_goals go_ret2
  all_goals refine ⟨?_, rfl⟩
  all_goals simp_all [inL, outL]

theorem ret_bool {a b : Bool} (h : a = b) : Ending.returned (.bool a) = Ending.returned (.bool b) := by rw [h]
theorem wrap0 : wrap64 0 = 0 := by simp [wrap64]
def letters26 : ByteArray := ⟨#[97, 98, 99, 100, 101, 102, 103, 104, 105, 106, 107, 108, 109, 110, 111, 112, 113, 114, 115, 116, 117, 118, 119, 120, 121, 122]⟩
def words5 : List ByteArray := [⟨#[116, 114, 117, 101]⟩, ⟨#[102, 97, 108, 115, 101]⟩, ⟨#[97, 110, 100]⟩, ⟨#[111, 114]⟩, ⟨#[110, 111, 116]⟩]
def trimmed (s : ByteArray) : List UInt8 := Lib.trimS s.data.toList letters26.data.toList
/-- exprs.IsName. -/
def isNameB (s : ByteArray) : Bool := !(s.toList.isEmpty) && !(decide ((8 : Int) < s.size)) && (trimmed s).isEmpty && !(Lib.containsS words5 s)

set_option maxHeartbeats 2000000 in
theorem isName_any (s : ByteArray) (w : World) : Calls Tryd.prog 99 #[.string s] w fun e w' => e = .returned (.bool (isNameB s)) ∧ Below w.heap.size w w' := by
  have htrim : s.size ≤ 8 → ∀ w, Calls Tryd.prog 129 #[.string s, .string letters26] w fun e w' => e = .returned (.string ⟨(trimmed s).toArray⟩) ∧ Below w.heap.size w w' :=
    fun h w => Tryd.strings_Trim_ascii s letters26 w (by omega) (by decide) (ascii_of_all (by decide))
  have HT := Lib.hid htrim
  clear htrim
  by_cases e1 : s.toList = []
  · have e1' : s.toList.isEmpty = true := by simp [e1]
    go_enter Tryd.func99, Tryd.ntmps99
    go_wp2
    go_ret
    exact ⟨by simp [isNameB, e1], Below.refl _ _⟩
  have e1' : s.toList.isEmpty = false := by simpa using e1
  by_cases e2 : (8 : Int) < s.size
  · go_enter Tryd.func99, Tryd.ntmps99
    go_wp2
    go_ret
    exact ⟨by simp [isNameB, e2], Below.refl _ _⟩
  by_cases e3 : trimmed s = []
  · have hin : isNameB s = !(Lib.containsS words5 s) := by simp [isNameB, e1, e2, e3]
    have HIN := Lib.hid hin
    have e4 : (trimmed s).isEmpty = true := by simp [e3]
    clear hin
    go_enter Tryd.func99, Tryd.ntmps99
    go_wp2_with (first
      | (go_at_call 129; refine (HT.out (by omega) _).mono ?_; rintro e w1 ⟨rfl, hb1⟩)
      | fail)
    refine (Tryd.slices_Contains_string w1.heap.size 0 5 5 words5 s _ (by decide) (by omega) ?_).mono ?_
    · intro j hj
      rcases (show j = 0 ∨ j = 1 ∨ j = 2 ∨ j = 3 ∨ j = 4 by simp [words5] at hj; omega) with rfl | rfl | rfl | rfl | rfl
      all_goals go_simp
      all_goals rfl
    rintro e w2 ⟨rfl, hw2⟩
    have hB2 : Below w.heap.size w w2 := by rw [hw2]; exact hb1.alloc hb1.size _
    clear hw2
    go_wp2_with fail
    go_ret
    exact ⟨ret_bool (by rw [HIN.out]; rfl), hB2⟩
  · have e4 : (trimmed s).isEmpty = false := by simpa using e3
    have hin : isNameB s = false := by simp [isNameB, e3]
    have HIN := Lib.hid hin
    clear hin
    go_enter Tryd.func99, Tryd.ntmps99
    go_wp2_with (first
      | (go_at_call 129; refine (HT.out (by omega) _).mono ?_; rintro e w1 ⟨rfl, hb1⟩)
      | fail)
    go_ret
    exact ⟨ret_bool (by rw [HIN.out]), hb1⟩

theorem truth_any (b : Bool) (w : World) : Calls Tryd.prog 77 #[.bool b] w fun e w' => e = .returned (.agg #[.int .i64 2, .int .i64 (if b then 1 else 0), .string ⟨#[]⟩]) ∧ Below w.heap.size w w' := by
  cases b
  · go_enter Tryd.func77, Tryd.ntmps77
    go_wp2
    refine bodyPost_ret (v := .agg #[.int .i64 2, .int .i64 0, .string ⟨#[]⟩]) (by simp [results, Tryd.results77, go_sem]) rfl ⟨rfl, ?_⟩
    exact (Below.refl _ _).alloc (Nat.le_refl _) _
  · go_enter Tryd.func77, Tryd.ntmps77
    go_wp2
    refine bodyPost_ret (v := .agg #[.int .i64 2, .int .i64 1, .string ⟨#[]⟩]) (by simp [results, Tryd.results77, go_sem]) rfl ⟨rfl, ?_⟩
    exact (Below.refl _ _).alloc (Nat.le_refl _) _

/-- exprs.reckon. -/
def reckonL (l : List UInt8) (a b : Int) : Int :=
  if l = [43] then wrap64 (a + b) else if l = [45] then wrap64 (a - b) else if l = [42] then wrap64 (a * b)
  else if l = [47] then (if b = 0 then 0 else wrap64 (a.tdiv b)) else if b = 0 then a else a.tmod b

set_option maxHeartbeats 1000000 in
theorem reckon_any (s : ByteArray) (a b : Int) (w : World) : Calls Tryd.prog 78 #[.string s, .int .i64 a, .int .i64 b] w fun e w' => e = .returned (.int .i64 (reckonL s.toList a b)) ∧ w = w' := by
  by_cases hb : b = 0
  · subst hb
    go_enter Tryd.func78, Tryd.ntmps78
    go_wp2
    all_goals go_ret
    all_goals refine ⟨?_, rfl⟩
    all_goals simp_all [reckonL, wrap0]
  · go_enter Tryd.func78, Tryd.ntmps78
    go_wp2
    all_goals go_ret
    all_goals refine ⟨?_, rfl⟩
    all_goals simp_all [reckonL, wrap0]
end Go.Proofs.YtiobdkibbhpojaaDoor
