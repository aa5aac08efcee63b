/- values.Read returns what rd says. Conditions: the text has at most 2 to the 47 bytes less 4096; the tables and the two errors of package strconv are laid. -/
import Derived.Test.YtiobdkibbhpojaaDoorW7
import Derived.Test.YtiobdkibbhpojaaDoorShelf3
import Derived.Lib.SmallJoins
import Derived.Handy
import Derived.Lib.AtoiErrMem
import Derived.Lib.ItoaLen
set_option linter.unusedVariables false
set_option linter.unusedSimpArgs false
namespace Go.Proofs.YtiobdkibbhpojaaDoor
open Go.RowKit

/-- A cell that holds an error, or none. -/
def ErrAt (w : World) (g : Nat) : Prop := ∃ ev, w.cell? ⟨g, 0, none⟩ = some ev ∧ (ev = .nilIface ∨ ∃ te pe, ev = .iface te pe)
/-- What is laid, as far as values are written and read. -/
def Tabs1 (w : World) : Prop := Tabs w ∧ Lib.TabIs Tryd.prog w "internal/strconv.uint64pow10" .u64 Lib.pow10Tab ∧ ErrAt w 3 ∧ ErrAt w 4
theorem pow10_at : Tryd.prog.globalNamed "internal/strconv.uint64pow10" = some 2 := by kernel_rfl
theorem ErrAt.keep {w w' : World} {g : Nat} (h : ErrAt w g) (hb : w'.heap[g]? = w.heap[g]?) : ErrAt w' g := by
  obtain ⟨ev, h1, h2⟩ := h
  exact ⟨ev, by rw [World.cell?_of_block hb]; exact h1, h2⟩
theorem Tabs1.keep {w w' : World} (h : Tabs1 w) (hb : ∀ b, b < 5 → w'.heap[b]? = w.heap[b]?) : Tabs1 w' := by
  obtain ⟨h1, h2, h3, h4⟩ := h
  refine ⟨?_, ?_, h3.keep (hb 3 (by omega)), h4.keep (hb 4 (by omega))⟩
  · exact ⟨fun c hc => by rw [World.cell?_of_block (w := w) (hb 0 (by omega))]; exact h1.1 c hc, fun i hi => ⟨by rw [World.cell?_of_block (w := w) (hb 1 (by omega))]; exact (h1.2 i hi).1, by rw [World.cell?_of_block (w := w) (hb 1 (by omega))]; exact (h1.2 i hi).2⟩⟩
  · unfold Lib.TabIs World.var? at h2 ⊢
    rw [pow10_at] at h2 ⊢
    simp only [Option.bind_some] at h2 ⊢
    rw [hb 2 (by omega)]
    exact h2
theorem ErrAt.lt {w : World} {g : Nat} (h : ErrAt w g) : g < w.heap.size := by
  obtain ⟨ev, h1, -⟩ := h
  exact World.block_lt_of_cell? _ _ h1
theorem Tabs1.big {w : World} (h : Tabs1 w) : 5 ≤ w.heap.size := h.2.2.2.lt
theorem Tabs1.below {w w' : World} (h : Tabs1 w) (hb : Below w.heap.size w w') : Tabs1 w' := h.keep fun b h5 => hb.block b (by have := h.big; omega)

/-- A value that is read. -/
def rd (l : List UInt8) : Va × Int :=
  if l = [116, 114, 117, 101] then (⟨2, 1, ⟨#[]⟩⟩, 0)
  else if l = [102, 97, 108, 115, 101] then (⟨2, 0, ⟨#[]⟩⟩, 0)
  else if Lib.hasPrefix l [34] = true then
    (⟨if (qgo (l.length + 1) (l.drop 1) []).1 = 0 then 3 else 0, 0, if (qgo (l.length + 1) (l.drop 1) []).1 = 0 then ⟨(qgo (l.length + 1) (l.drop 1) []).2.toArray⟩ else ⟨#[]⟩⟩, (qgo (l.length + 1) (l.drop 1) []).1)
  else match Lib.parseIntB 64 l with
    | .ok v => if Lib.itoa v = l then (⟨1, v, ⟨#[]⟩⟩, 0) else (⟨0, 0, ⟨#[]⟩⟩, 3)
    | _ => (⟨0, 0, ⟨#[]⟩⟩, 3)
theorem parse_range (l : List UInt8) (v : Int) (h : Lib.parseIntB 64 l = .ok v) : -9223372036854775808 ≤ v ∧ v ≤ 9223372036854775807 := by
  unfold Lib.parseIntB at h
  split at h
  · cases h
  · rename_i c r
    split at h
    · cases h
    · cases h
    · rename_i u hu
      simp only at h
      split at h
      · cases h
      · rename_i h1
        split at h
        · cases h
        · rename_i h2
          simp only [Lib.NumEnd.ok.injEq] at h
          subst h
          by_cases hn : c.toNat = 45
          · simp only [hn, if_true, true_and] at h2 ⊢
            omega
          · simp only [hn, if_false, not_false_eq_true, true_and] at h1 ⊢
            omega

def rdV (x : Va × Int) : Value := .tuple #[.agg #[.int .i64 x.1.t, .int .i64 x.1.n, .string x.1.s], .int .i64 x.2]
set_option maxRecDepth 100000 in
set_option maxHeartbeats 8000000 in
theorem read_any (s : ByteArray) (hs : s.size ≤ 140737488351232) (w : World) (ht : Tabs1 w) :
    Calls Tryd.prog 26 #[.string s] w fun e w' => e = .returned (rdV (rd s.data.toList)) ∧ Below w.heap.size w w' := by
  have HT := Lib.hid ht
  have hB0 : Below w.heap.size w (w.alloc (.cells #[.int .i64 0, .int .i64 0, .string ⟨#[]⟩] 23)) := (Below.refl _ _).alloc (Nat.le_refl _) _
  have HB0 := Lib.hid hB0
  have HT0 := Lib.hid (ht.below hB0)
  clear ht hB0
  have hl : s.toList = s.data.toList := Lib.toList_data s
  have h0 : (w.alloc (.cells #[.int .i64 0, .int .i64 0, .string ⟨#[]⟩] 23)).heap[w.heap.size]? = some (.cells #[.int .i64 0, .int .i64 0, .string ⟨#[]⟩] 23 (0, 0)) := heap_alloc_new w _
  have H0 := Lib.hid h0
  clear h0
  by_cases k1 : s.data.toList = [116, 114, 117, 101]
  · have hr : rd s.data.toList = (⟨2, 1, ⟨#[]⟩⟩, 0) := by unfold rd; rw [if_pos k1]
    have a1 : (s.toList == [116, 114, 117, 101]) = true := by rw [hl]; simpa using k1
    have a2 : (s.toList == [102, 97, 108, 115, 101]) = false := by rw [hl, k1]; rfl
    rw [hr]
    clear hr k1
    go_enter Tryd.func26, Tryd.ntmps26
    go_wp2_with fail
    all_goals first
      | (exfalso; simp_all; done)
      | (refine bodyPost_ret (v := .tuple #[.agg #[.int .i64 2, .int .i64 1, .string ⟨#[]⟩], .int .i64 0]) (by simp [results, Tryd.results26, go_sem]) rfl ⟨rfl, ?_⟩; go_grown)
  by_cases k2 : s.data.toList = [102, 97, 108, 115, 101]
  · have hr : rd s.data.toList = (⟨2, 0, ⟨#[]⟩⟩, 0) := by unfold rd; rw [if_neg k1, if_pos k2]
    have a1 : (s.toList == [116, 114, 117, 101]) = false := by rw [hl, k2]; rfl
    have a2 : (s.toList == [102, 97, 108, 115, 101]) = true := by rw [hl]; simpa using k2
    rw [hr]
    clear hr k1 k2
    go_enter Tryd.func26, Tryd.ntmps26
    go_wp2_with fail
    all_goals first
      | (exfalso; simp_all; done)
      | (refine bodyPost_ret (v := .tuple #[.agg #[.int .i64 2, .int .i64 0, .string ⟨#[]⟩], .int .i64 0]) (by simp [results, Tryd.results26, go_sem]) rfl ⟨rfl, ?_⟩; go_grown)
  have a1 : (s.toList == [116, 114, 117, 101]) = false := by rw [hl]; simpa using k1
  have a2 : (s.toList == [102, 97, 108, 115, 101]) = false := by rw [hl]; simpa using k2
  have hrd : rd s.data.toList = if Lib.hasPrefix s.data.toList [34] = true then
      (⟨if (qgo (s.size + 1) (s.data.toList.drop 1) []).1 = 0 then 3 else 0, 0, if (qgo (s.size + 1) (s.data.toList.drop 1) []).1 = 0 then ⟨(qgo (s.size + 1) (s.data.toList.drop 1) []).2.toArray⟩ else ⟨#[]⟩⟩, (qgo (s.size + 1) (s.data.toList.drop 1) []).1)
      else match Lib.parseIntB 64 s.data.toList with
        | .ok v => if Lib.itoa v = s.data.toList then (⟨1, v, ⟨#[]⟩⟩, 0) else (⟨0, 0, ⟨#[]⟩⟩, 3)
        | _ => (⟨0, 0, ⟨#[]⟩⟩, 3) := by
    unfold rd
    rw [if_neg k1, if_neg k2]
    rfl
  have hpre := Tryd.strings_HasPrefix s ⟨#[34]⟩ (w.alloc (.cells #[.int .i64 0, .int .i64 0, .string ⟨#[]⟩] 23))
  have e34 : (⟨#[34]⟩ : ByteArray).data.toList = [34] := rfl
  rw [e34] at hpre
  have hs1 : Lib.hasPrefix s.data.toList [34] = true → 1 ≤ s.size := fun h => by
    rcases Nat.eq_zero_or_pos s.size with h' | h'
    · have : s.data.toList = [] := by
        have := Utf.sizeL s
        rw [h'] at this
        exact List.eq_nil_of_length_eq_zero this
      rw [this] at h
      cases h
    · exact h'
  have hqu := fun h => quoted_any s hs (hs1 h) (w.alloc (.cells #[.int .i64 0, .int .i64 0, .string ⟨#[]⟩] 23)) HT0.out.1
  generalize Lib.hasPrefix s.data.toList [34] = pb at hrd hpre hqu
  obtain ⟨R1, R2, hR⟩ : ∃ R1 R2, qgo (s.size + 1) (s.data.toList.drop 1) [] = (R1, R2) := ⟨_, _, rfl⟩
  rw [hR] at hrd hqu
  obtain ⟨A, hA⟩ : ∃ A : Int, (if R1 = 0 then 3 else 0) = A := ⟨_, rfl⟩
  obtain ⟨S, hS⟩ : ∃ S : ByteArray, (if R1 = 0 then (⟨R2.toArray⟩ : ByteArray) else ⟨#[]⟩) = S := ⟨_, rfl⟩
  simp only [qval, hA, hS] at hqu hrd
  have HRD := Lib.hid hrd
  have HPRE := Lib.hid hpre
  have HQU := Lib.hid hqu
  have HL := Lib.hid hl
  clear hrd hpre hqu hR hs1 k1 k2 hl e34 hA hS
  go_enter Tryd.func26, Tryd.ntmps26
  go_wp2_with fail
  refine HPRE.out.mono ?_
  rintro e w1 ⟨rfl, rfl⟩
  cases pb with
  | true =>
    go_wp2_with fail
    refine (HQU.out trivial).mono ?_
    rintro e w2 ⟨rfl, hb2⟩
    have hres := (hb2.block w.heap.size (by simp)).trans H0.out
    have HB2 := Lib.hid (HB0.out.trans (hb2.mono (by simp)))
    have q0 : w2.cell? ⟨w.heap.size, 0, none⟩ = some (.int .i64 0) := Lib.cell_of_heap hres 0
    have q1 : w2.cell? ⟨w.heap.size, 1, none⟩ = some (.int .i64 0) := Lib.cell_of_heap hres 1
    have q2 : w2.cell? ⟨w.heap.size, 2, none⟩ = some (.string ⟨#[]⟩) := Lib.cell_of_heap hres 2
    have f0 : w2.frozen? ⟨w.heap.size, 0, none⟩ = false := Lib.frozen_of_heap hres 0
    have f1 : w2.frozen? ⟨w.heap.size, 1, none⟩ = false := Lib.frozen_of_heap hres 1
    have f2 : w2.frozen? ⟨w.heap.size, 2, none⟩ = false := Lib.frozen_of_heap hres 2
    clear hb2 hres
    go_wp2_with fail
    refine bodyPost_ret (v := .tuple #[.agg #[.int .i64 A, .int .i64 0, .string S], .int .i64 R1]) (by simp [results, Tryd.results26, go_sem, q0, q1, q2]) rfl ⟨by rw [HRD.out]; rfl, ?_⟩
    exact ((HB2.out.setCell (Nat.le_refl _) _).setCell (Nat.le_refl _) _).setCell (Nat.le_refl _) _
  | false =>
    have hrd := HRD.out
    simp only [Bool.false_eq_true, if_false] at hrd
    clear HRD HQU HPRE
    cases hp : Lib.parseIntB 64 s.data.toList with
    | ok v =>
      rw [hp] at hrd
      simp only at hrd
      have HRD2 := Lib.hid hrd
      obtain ⟨hv0, hv1⟩ := parse_range _ v hp
      have hcon := Tryd.strconv_ParseInt_10_at64_ok s (by omega) v hp (w.alloc (.cells #[.int .i64 0, .int .i64 0, .string ⟨#[]⟩] 23))
      have HCON := Lib.hid hcon
      clear hrd hp hcon
      go_wp2_with fail
      refine HCON.out.mono ?_
      rintro e w2 ⟨rfl, hw2⟩
      have hb2 : Below (w.alloc (.cells #[.int .i64 0, .int .i64 0, .string ⟨#[]⟩] 23)).heap.size (w.alloc (.cells #[.int .i64 0, .int .i64 0, .string ⟨#[]⟩] 23)) w2 := by
        rcases hw2 with rfl | ⟨t, rfl⟩
        · exact Below.refl _ _
        · exact Lib.bytesWorld_below _ _ _
      have HT2 := Lib.hid (HT0.out.below hb2)
      have HW2 := Lib.hid hb2
      clear hw2 hb2
      go_wp2_with fail
      refine (Tryd.strconv_FormatInt_10 v hv0 hv1 w2 HT2.out.2.1).mono ?_
      rintro e w3 ⟨rfl, k, os, hw3⟩
      have hb3 : Below w2.heap.size w2 w3 := by
        subst hw3
        exact ⟨rfl, rfl, rfl, by simp [Go.Sort.grow], fun b hb => by simp only [Go.Sort.grow]; exact Array.getElem?_append_left (by simpa using hb)⟩
      have hb4 := HW2.out.trans (hb3.mono HW2.out.size)
      clear hb3 hw3
      have hres := (hb4.block w.heap.size (by simp)).trans H0.out
      have HB4 := Lib.hid (HB0.out.trans (hb4.mono (by simp)))
      have q0 : w3.cell? ⟨w.heap.size, 0, none⟩ = some (.int .i64 0) := Lib.cell_of_heap hres 0
      have q1 : w3.cell? ⟨w.heap.size, 1, none⟩ = some (.int .i64 0) := Lib.cell_of_heap hres 1
      have q2 : w3.cell? ⟨w.heap.size, 2, none⟩ = some (.string ⟨#[]⟩) := Lib.cell_of_heap hres 2
      have f0 : w3.frozen? ⟨w.heap.size, 0, none⟩ = false := Lib.frozen_of_heap hres 0
      have f1 : w3.frozen? ⟨w.heap.size, 1, none⟩ = false := Lib.frozen_of_heap hres 1
      have f2 : w3.frozen? ⟨w.heap.size, 2, none⟩ = false := Lib.frozen_of_heap hres 2
      clear hb4 hres
      by_cases hv : Lib.itoa v = s.data.toList
      · have c1 : (Lib.itoa v == s.toList) = true := by rw [HL.out]; simpa using hv
        have hr := HRD2.out
        rw [if_pos hv] at hr
        clear hv
        have HR := Lib.hid hr
        clear hr
        go_wp2_with fail
        refine bodyPost_ret (v := .tuple #[.agg #[.int .i64 1, .int .i64 v, .string ⟨#[]⟩], .int .i64 0]) (by simp [results, Tryd.results26, go_sem, q0, q1, q2]) rfl ⟨by rw [HR.out]; rfl, ?_⟩
        exact ((HB4.out.setCell (Nat.le_refl _) _).setCell (Nat.le_refl _) _).setCell (Nat.le_refl _) _
      · have c1 : (Lib.itoa v == s.toList) = false := by rw [HL.out]; simpa using hv
        have hr := HRD2.out
        rw [if_neg hv] at hr
        clear hv
        have HR := Lib.hid hr
        clear hr
        go_wp2_with fail
        refine bodyPost_ret (v := .tuple #[.agg #[.int .i64 0, .int .i64 0, .string ⟨#[]⟩], .int .i64 3]) (by simp [results, Tryd.results26, go_sem, q0, q1, q2]) rfl ⟨by rw [HR.out]; rfl, ?_⟩
        exact ((HB4.out.setCell (Nat.le_refl _) _).setCell (Nat.le_refl _) _).setCell (Nat.le_refl _) _
    | range =>
      rw [hp] at hrd
      have HRD2 := Lib.hid hrd
      obtain ⟨ev, hev1, hev2⟩ := HT0.out.2.2.2
      have hcon := Tryd.strconv_ParseInt_10_at64_range s (by omega) hp ev _ hev1 hev2
      clear hrd hp hev1 hev2
      go_wp2_with fail
      refine hcon.mono ?_
      rintro e w2 ⟨N, rfl, -, -, hb2⟩
      clear hcon
      have hres := (hb2.block w.heap.size (by simp)).trans H0.out
      have HB2 := Lib.hid (HB0.out.trans (hb2.mono (by simp)))
      have q0 : w2.cell? ⟨w.heap.size, 0, none⟩ = some (.int .i64 0) := Lib.cell_of_heap hres 0
      have q1 : w2.cell? ⟨w.heap.size, 1, none⟩ = some (.int .i64 0) := Lib.cell_of_heap hres 1
      have q2 : w2.cell? ⟨w.heap.size, 2, none⟩ = some (.string ⟨#[]⟩) := Lib.cell_of_heap hres 2
      have f0 : w2.frozen? ⟨w.heap.size, 0, none⟩ = false := Lib.frozen_of_heap hres 0
      have f1 : w2.frozen? ⟨w.heap.size, 1, none⟩ = false := Lib.frozen_of_heap hres 1
      have f2 : w2.frozen? ⟨w.heap.size, 2, none⟩ = false := Lib.frozen_of_heap hres 2
      clear hb2 hres
      go_wp2_with fail
      refine bodyPost_ret (v := .tuple #[.agg #[.int .i64 0, .int .i64 0, .string ⟨#[]⟩], .int .i64 3]) (by simp [results, Tryd.results26, go_sem, q0, q1, q2]) rfl ⟨by rw [HRD2.out]; rfl, ?_⟩
      exact ((HB2.out.setCell (Nat.le_refl _) _).setCell (Nat.le_refl _) _).setCell (Nat.le_refl _) _
    | _ =>
      rw [hp] at hrd
      have HRD2 := Lib.hid hrd
      obtain ⟨ev, hev1, hev2⟩ := HT0.out.2.2.1
      have hcon := Tryd.strconv_ParseInt_10_at64_bad s (by omega) (by rw [hp]; simp) (by rw [hp]; simp) ev _ hev1 hev2
      clear hrd hp hev1 hev2
      go_wp2_with fail
      refine hcon.mono ?_
      rintro e w2 ⟨N, rfl, -, -, hb2⟩
      clear hcon
      have hres := (hb2.block w.heap.size (by simp)).trans H0.out
      have HB2 := Lib.hid (HB0.out.trans (hb2.mono (by simp)))
      have q0 : w2.cell? ⟨w.heap.size, 0, none⟩ = some (.int .i64 0) := Lib.cell_of_heap hres 0
      have q1 : w2.cell? ⟨w.heap.size, 1, none⟩ = some (.int .i64 0) := Lib.cell_of_heap hres 1
      have q2 : w2.cell? ⟨w.heap.size, 2, none⟩ = some (.string ⟨#[]⟩) := Lib.cell_of_heap hres 2
      have f0 : w2.frozen? ⟨w.heap.size, 0, none⟩ = false := Lib.frozen_of_heap hres 0
      have f1 : w2.frozen? ⟨w.heap.size, 1, none⟩ = false := Lib.frozen_of_heap hres 1
      have f2 : w2.frozen? ⟨w.heap.size, 2, none⟩ = false := Lib.frozen_of_heap hres 2
      clear hb2 hres
      go_wp2_with fail
      refine bodyPost_ret (v := .tuple #[.agg #[.int .i64 0, .int .i64 0, .string ⟨#[]⟩], .int .i64 3]) (by simp [results, Tryd.results26, go_sem, q0, q1, q2]) rfl ⟨by rw [HRD2.out]; rfl, ?_⟩
      exact ((HB2.out.setCell (Nat.le_refl _) _).setCell (Nat.le_refl _) _).setCell (Nat.le_refl _) _
end Go.Proofs.YtiobdkibbhpojaaDoor
