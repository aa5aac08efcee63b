/- values.escaped writes what escL says. Conditions: the text has at most 2 to the 40 bytes. -/
import Derived.Test.YtiobdkibbhpojaaDoorBld
import Derived.Test.YtiobdkibbhpojaaDoorW3
import Derived.Test.YtiobdkibbhpojaaDoorShelf
import Derived.Lib.Hide
set_option linter.unusedVariables false
set_option linter.unusedSimpArgs false
namespace Go.Proofs.YtiobdkibbhpojaaDoor
open Go.RowKit

/-- A letter as it is written. -/
def escB (c : UInt8) : List UInt8 := if c.toNat = 10 then [92, 110] else if c.toNat = 92 ∨ c.toNat = 34 then [92, c] else [c]
def escL (l : List UInt8) : List UInt8 := l.flatMap escB
theorem escB_len (c : UInt8) : (escB c).length ≤ 2 := by unfold escB; (repeat' split) <;> simp
theorem escL_len : ∀ l : List UInt8, (escL l).length ≤ 2 * l.length
  | [] => by simp [escL]
  | c :: l => by
    have := escL_len l
    have := escB_len c
    simp only [escL, List.flatMap_cons, List.length_append, List.length_cons] at *
    omega
theorem escL_app (a b : List UInt8) : escL (a ++ b) = escL a ++ escL b := by simp [escL]
theorem escL_one (c : UInt8) : escL [c] = escB c := by simp [escL]
theorem take_one' (s : ByteArray) (j : Nat) (h : j < s.size) : s.data.toList.take (j + 1) = s.data.toList.take j ++ [s[j]] := by
  have hl : j < s.data.toList.length := by rw [Utf.sizeL]; exact h
  rw [List.take_add_one, List.getElem?_eq_getElem hl]
  rfl
theorem bytes_app (a b : List UInt8) : Lib.byteCells (a ++ b) = Lib.byteCells a ++ Lib.byteCells b := by simp [Lib.byteCells]

set_option maxRecDepth 100000 in
set_option maxHeartbeats 4000000 in
theorem escaped_any (s : ByteArray) (hs : s.size ≤ 1099511627776) (w : World) :
    Calls Tryd.prog 54 #[.string s] w fun e w' => e = .returned (.string ⟨(escL s.data.toList).toArray⟩) ∧ Below w.heap.size w w' := by
  go_enter Tryd.func54, Tryd.ntmps54
  go_wp2_with fail
  go_loopw [8] (fun i wr => ∃ (j : Nat), j ≤ s.size ∧ i = .int .i64 (j : Int) ∧ Lib.IsBuilderF 110 5 w.heap.size w.heap.size (Lib.byteCells (escL (s.data.toList.take j))) wr ∧ Below w.heap.size w wr) (fun i _ => (s.size : Nat) - (intOf i).toNat)
  case atStart => exact ⟨0, by omega, by first | rfl | simp, Lib.IsBuilderF.of (Lib.fresh_isBuilder 110 5 w), (Below.refl _ _).alloc (Nat.le_refl _) _⟩
  case round =>
    obtain ⟨j, hj, rfl, hB, hBr⟩ := hrel
    have hsz := hBr.size
    have hlen : (Lib.byteCells (escL (s.data.toList.take j))).length ≤ 2199023255552 := by
      have h1 := escL_len (s.data.toList.take j)
      rw [List.length_take, Utf.sizeL] at h1
      simp only [Lib.byteCells, List.length_map]
      omega
    have HB := Lib.hid hB
    have HBr := Lib.hid hBr
    have HL := Lib.hid hlen
    clear hB hBr hlen
    by_cases hlt : j < s.size
    · have hlt' : (j : Int) < (s.size : Int) := by omega
      have htk := take_one' s j hlt
      have he : escL (s.data.toList.take (j + 1)) = escL (s.data.toList.take j) ++ escB s[j] := by rw [htk, escL_app, escL_one]
      generalize hx : s[j] = x at htk he
      have hxl := x.toNat_lt
      have nxt : ∀ (xs : List Value) (w2 : World), xs = Lib.byteCells (escB x) → Lib.BuilderAtF 110 5 w.heap.size w.heap.size (.pointer (some ⟨w.heap.size, 0, none⟩)) (Lib.byteCells (escL (s.data.toList.take j)) ++ xs) w2 →
          Lib.IsBuilderF 110 5 w.heap.size w.heap.size (Lib.byteCells (escL (s.data.toList.take (j + 1)))) w2 := fun xs w2 h1 h2 => by
        rw [he, bytes_app, ← h1]
        exact .inr h2
      have NXT := Lib.hid nxt
      have HX := Lib.hid hx
      clear htk he nxt hx
      by_cases c10 : x.toNat = 10
      · have q10 : ((x.toNat : Int) == 10) = true := by simp [c10]
        have q10' : ((s[j].toNat : Int) == 10) = true := by rw [HX.out]; exact q10
        go_wp2_with fail
        refine (Tryd.Builder_WriteString_k w.heap.size w.heap.size _ ⟨#[92, 110]⟩ wr HB.out (by have := HL.out; have : (⟨#[92, 110]⟩ : ByteArray).size = 2 := rfl; omega) (by omega)).mono ?_
        rintro e w2 ⟨rfl, h2, hb2, -⟩
        have H2 := Lib.hid (NXT.out _ _ (by unfold escB; rw [if_pos c10]; rfl) h2)
        have HB2 := Lib.hid (HBr.out.trans hb2)
        clear h2 hb2
        go_wp2_with fail
        go_roundw
        case rel => exact ⟨j + 1, by omega, by first | rfl | simp, H2.out, HB2.out⟩
        case measure => simp [intOf]; omega
      · have q10 : ((s[j].toNat : Int) == 10) = false := by rw [HX.out]; simp only [beq_eq_false_iff_ne]; omega
        by_cases c92 : x.toNat = 92
        · have q92 : ((s[j].toNat : Int) == 92) = true := by rw [HX.out]; simp [c92]
          go_wp2_with fail
          refine (Tryd.Builder_WriteByte_k w.heap.size w.heap.size _ 92 wr HB.out (by have := HL.out; omega) (by omega)).mono ?_
          rintro e w2 ⟨rfl, h2, hb2, -⟩
          have H2 := Lib.hid h2
          have HB2 := Lib.hid hb2
          have hsz2 := hb2.size
          clear h2 hb2
          go_wp2_with fail
          refine (Tryd.Builder_WriteByte_k w.heap.size w.heap.size _ (s[j].toNat : Int) w2 (.inr H2.out) (by have := HL.out; rw [List.length_append]; simp only [List.length_singleton]; omega) (by omega)).mono ?_
          rintro e w3 ⟨rfl, h3, hb3, -⟩
          rw [List.append_assoc] at h3
          have H3 := Lib.hid (NXT.out _ _ (by unfold escB; rw [if_neg c10, if_pos (.inl c92), HX.out]; rfl) h3)
          have HB3 := Lib.hid (HBr.out.trans ((HB2.out.trans hb3)))
          clear h3 hb3
          go_wp2_with fail
          go_roundw
          case rel => exact ⟨j + 1, by omega, by first | rfl | simp, H3.out, HB3.out⟩
          case measure => simp [intOf]; omega
        · have q92 : ((s[j].toNat : Int) == 92) = false := by rw [HX.out]; simp only [beq_eq_false_iff_ne]; omega
          by_cases c34 : x.toNat = 34
          · have q34 : ((s[j].toNat : Int) == 34) = true := by rw [HX.out]; simp [c34]
            go_wp2_with fail
            refine (Tryd.Builder_WriteByte_k w.heap.size w.heap.size _ 92 wr HB.out (by have := HL.out; omega) (by omega)).mono ?_
            rintro e w2 ⟨rfl, h2, hb2, -⟩
            have H2 := Lib.hid h2
            have HB2 := Lib.hid hb2
            have hsz2 := hb2.size
            clear h2 hb2
            go_wp2_with fail
            refine (Tryd.Builder_WriteByte_k w.heap.size w.heap.size _ (s[j].toNat : Int) w2 (.inr H2.out) (by have := HL.out; rw [List.length_append]; simp only [List.length_singleton]; omega) (by omega)).mono ?_
            rintro e w3 ⟨rfl, h3, hb3, -⟩
            rw [List.append_assoc] at h3
            have H3 := Lib.hid (NXT.out _ _ (by unfold escB; rw [if_neg c10, if_pos (.inr c34), HX.out]; rfl) h3)
            have HB3 := Lib.hid (HBr.out.trans ((HB2.out.trans hb3)))
            clear h3 hb3
            go_wp2_with fail
            go_roundw
            case rel => exact ⟨j + 1, by omega, by first | rfl | simp, H3.out, HB3.out⟩
            case measure => simp [intOf]; omega
          · have q34 : ((s[j].toNat : Int) == 34) = false := by rw [HX.out]; simp only [beq_eq_false_iff_ne]; omega
            go_wp2_with fail
            refine (Tryd.Builder_WriteByte_k w.heap.size w.heap.size _ (s[j].toNat : Int) wr HB.out (by have := HL.out; omega) (by omega)).mono ?_
            rintro e w2 ⟨rfl, h2, hb2, -⟩
            have H2 := Lib.hid (NXT.out _ _ (by unfold escB; rw [if_neg c10, if_neg (fun q => q.elim c92 c34), HX.out]; rfl) h2)
            have HB2 := Lib.hid (HBr.out.trans hb2)
            clear h2 hb2
            go_wp2_with fail
            go_roundw
            case rel => exact ⟨j + 1, by omega, by first | rfl | simp, H2.out, HB2.out⟩
            case measure => simp [intOf]; omega
    · have hlt' : ¬ (j : Int) < (s.size : Int) := by omega
      go_wp2_with fail
      refine (Tryd.Builder_String_any_k w.heap.size w.heap.size (escL (s.data.toList.take j)) wr HB.out (by omega)).mono ?_
      rintro e w2 ⟨rfl, -, hb2, -⟩
      have HB2 := Lib.hid (HBr.out.trans hb2)
      clear hb2
      have htk : s.data.toList.take j = s.data.toList := List.take_of_length_le (by rw [Utf.sizeL]; omega)
      go_wp2_with fail
      go_ret
      exact ⟨rfl, HB2.out⟩
end Go.Proofs.YtiobdkibbhpojaaDoor
