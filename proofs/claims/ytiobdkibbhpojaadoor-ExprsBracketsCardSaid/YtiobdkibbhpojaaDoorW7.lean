/- values.quoted returns what qgo says. Conditions: the text has at most 2 to the 47 bytes less 4096; the tables of package utf8 are laid. -/
import Derived.Test.YtiobdkibbhpojaaDoorW6
import Derived.Test.YtiobdkibbhpojaaDoorUtf
set_option linter.unusedVariables false
set_option linter.unusedSimpArgs false
namespace Go.Proofs.YtiobdkibbhpojaaDoor
open Go.RowKit

/-- A quoted text read on, behind what has been read: the error, and the text. -/
def qgo : Nat → List UInt8 → List UInt8 → Int × List UInt8
  | 0, _, _ => (3, [])
  | n + 1, l, out =>
    if l = [] then (3, [])
    else if ((Lib.decodeL l).1 = 65533 ∧ (Lib.decodeL l).2 = 1) ∨ (Lib.decodeL l).1 = 10 then (3, [])
    else if (Lib.decodeL l).1 = 34 then (if 1 < l.length then (3, []) else if 100 < out.length then (2, []) else (0, out))
    else if (Lib.decodeL l).1 = 92 then
      (if l.length = 1 then (3, [])
      else if (l.getD 1 0).toNat = 92 then qgo n (l.drop 2) (out ++ [92])
      else if (l.getD 1 0).toNat = 34 then qgo n (l.drop 2) (out ++ [34])
      else if (l.getD 1 0).toNat = 110 then qgo n (l.drop 2) (out ++ [10])
      else (3, []))
    else qgo n (l.drop (Lib.decodeL l).2) (out ++ Utf.enc (Lib.decodeL l).1)
def qval (R : Int × List UInt8) : Value := .tuple #[.agg #[.int .i64 (if R.1 = 0 then 3 else 0), .int .i64 0, .string (if R.1 = 0 then ⟨R.2.toArray⟩ else ⟨#[]⟩)], .int .i64 R.1]
theorem decodeGo_list (s : ByteArray) (h : s.size ≠ 0) : Lib.decodeGo s = Lib.decodeL s.data.toList := by
  unfold Lib.decodeGo
  rw [if_neg h]; rfl
theorem rune_cells (c : Nat) (h : Utf.good c) : Lib.runeCells (c : Int) = Lib.byteCells (Utf.enc c) := by
  have hi : c ≤ 1114111 := by unfold Utf.good at h; omega
  unfold Utf.enc
  by_cases c1 : c < 128
  · rw [if_pos c1]
    simp only [Lib.runeCells, Lib.encodeRuneZ_one (r := (c : Int)) (by omega) (by omega), Lib.byteCells, List.map_cons, List.map_nil, Utf.b8_toNat c (by omega)]
  rw [if_neg c1]
  by_cases c2 : c < 2048
  · rw [if_pos c2]
    simp only [Lib.runeCells, Lib.encodeRuneZ_two (r := (c : Int)) (by omega) (by omega), Lib.byteCells, List.map_cons, List.map_nil, Utf.b8_toNat (192 + c / 64) (by omega), Utf.b8_toNat (128 + c % 64) (by omega)]
    simp
  rw [if_neg c2]
  by_cases c3 : c < 65536
  · rw [if_pos c3]
    simp only [Lib.runeCells, Lib.encodeRuneZ_three (r := (c : Int)) (by unfold Utf.good at h; omega), Lib.byteCells, List.map_cons, List.map_nil, Utf.b8_toNat (224 + c / 4096) (by omega), Utf.b8_toNat (128 + c / 64 % 64) (by omega), Utf.b8_toNat (128 + c % 64) (by omega)]
    simp
  rw [if_neg c3]
  simp only [Lib.runeCells, Lib.encodeRuneZ_four (r := (c : Int)) (by omega) (by omega), Lib.byteCells, List.map_cons, List.map_nil, Utf.b8_toNat (240 + c / 262144) (by omega), Utf.b8_toNat (128 + c / 4096 % 64) (by omega), Utf.b8_toNat (128 + c / 64 % 64) (by omega), Utf.b8_toNat (128 + c % 64) (by omega)]
  simp
theorem bytes_len (l : List UInt8) : (Lib.byteCells l).length = l.length := by simp [Lib.byteCells]
theorem drop_list (s : ByteArray) (j : Nat) : (s.extract j s.size).data.toList = s.data.toList.drop j := by
  rw [Lib.extract_data]
  exact List.take_of_length_le (by rw [List.length_drop, Utf.sizeL]; exact Nat.le_refl _)

theorem bldF_keep {T e : TypeId} {B b : Nat} {bs : List Value} {w w' : World} (hb : Below w.heap.size w w') (h : Lib.IsBuilderF T e B b bs w) : Lib.IsBuilderF T e B b bs w' := by
  have key : ∀ p, Lib.BuilderAtF T e B b p bs w → Lib.BuilderAtF T e B b p bs w' := fun p h => by
    have hlt := h.lt
    obtain ⟨hB, v, hbk, ⟨hl, hv⟩, hne⟩ := h
    refine ⟨hB, v, by rw [hb.block b hlt]; exact hbk, ⟨hl, ?_⟩, hne⟩
    rcases hv with hv | ⟨g, cap, cur, fz, h1, h2, h3, h4⟩
    · exact .inl hv
    · have hg : g < w.heap.size := (Array.getElem?_eq_some_iff.1 h3).1
      exact .inr ⟨g, cap, cur, fz, h1, h2, by rw [hb.block g hg]; exact h3, h4⟩
  exact h.imp (key _) (key _)

set_option maxRecDepth 100000 in
set_option maxHeartbeats 8000000 in
theorem quoted_any (s : ByteArray) (hs : s.size ≤ 140737488351232) (hs1 : 1 ≤ s.size) (w : World) (ht : Tabs w) :
    Calls Tryd.prog 56 #[.string s] w fun e w' => e = .returned (qval (qgo (s.size + 1) (s.data.toList.drop 1) [])) ∧ Below w.heap.size w w' := by
  obtain ⟨R, hR⟩ : ∃ R, qgo (s.size + 1) (s.data.toList.drop 1) [] = R := ⟨_, rfl⟩
  rw [hR]
  have HR := Lib.hid hR
  have HT := Lib.hid ht
  clear hR ht
  go_enter Tryd.func56, Tryd.ntmps56
  go_wp2_with fail
  go_loopw [5] (fun i wr => ∃ (j n : Nat) (out : List UInt8), j ≤ s.size ∧ i = .int .i64 (j : Int) ∧ s.size < n + j ∧ out.length ≤ j ∧ qgo n (s.data.toList.drop j) out = R ∧ Lib.IsBuilderF 110 5 (w.heap.size + 1) (w.heap.size + 1) (Lib.byteCells out) wr ∧ Below w.heap.size w wr
    ∧ wr.heap[w.heap.size]? = some (.cells #[.int .i64 0, .int .i64 0, .string ⟨#[]⟩] 23 (0, 0)) ∧ w.heap.size + 1 ≤ wr.heap.size) (fun i _ => (s.size : Nat) - (intOf i).toNat)
  case atStart =>
    refine ⟨1, s.size + 1, [], by omega, by first | rfl | simp, by omega, by simp, HR.out, ?_, ?_, ?_, ?_⟩
    · have := Lib.IsBuilderF.of (Lib.fresh_isBuilder 110 5 (w.alloc (.cells #[.int .i64 0, .int .i64 0, .string ⟨#[]⟩] 23)))
      rw [show Lib.byteCells [] = [] from rfl]
      simpa using this
    · exact ((Below.refl _ _).alloc (Nat.le_refl _) _).alloc (by simp) _
    · rw [Lib.alloc_old _ _ _ (by simp)]
      exact heap_alloc_new w _
    · simp
  case round =>
    obtain ⟨j, n, out, hj, rfl, hn, ho, hq, hB, hBr, hres, hsz⟩ := hrel
    by_cases hlt : j < s.size
    · have hlt' : (j : Int) < (s.size : Int) := by omega
      have hl : s.data.toList.drop j ≠ [] := fun q => by
        have := congrArg List.length q
        rw [List.length_drop, Utf.sizeL] at this
        simp only [List.length_nil] at this
        omega
      obtain ⟨m, rfl⟩ : ∃ m, n = m + 1 := ⟨n - 1, by omega⟩
      have hes : (s.extract j s.size).size ≠ 0 := fun q => by
        have h1 := congrArg List.length (drop_list s j)
        rw [List.length_drop, Utf.sizeL, Utf.sizeL] at h1
        omega
      have hdg : Lib.decodeGo (s.extract j s.size) = Lib.decodeL (s.data.toList.drop j) := by rw [decodeGo_list _ hes, drop_list]
      rw [qgo, if_neg hl] at hq
      have hdec := fun h => Utf.enc_decode (s.data.toList.drop j) hl h
      obtain ⟨c, k, hck⟩ : ∃ c k, Lib.decodeL (s.data.toList.drop j) = (c, k) := ⟨_, _, rfl⟩
      rw [hck] at hq hdec hdg
      simp only at hq hdec
      have hcon := Tryd.utf8_DecodeRuneInString (s.extract j s.size) wr (HT.out.below hBr)
      rw [hdg] at hcon
      simp only at hcon
      have HQ := Lib.hid hq
      have HD := Lib.hid hdec
      have HB := Lib.hid hB
      have HBr := Lib.hid hBr
      have HRES := Lib.hid hres
      have HCON := Lib.hid hcon
      have HL := Lib.hid hl
      clear hq hdec hB hBr hcon hck hdg hres hl
      go_wp2_with fail
      refine HCON.out.mono ?_
      rintro e w2 ⟨rfl, hb2⟩
      have HB2 := Lib.hid (bldF_keep hb2 HB.out)
      have HBr2 := Lib.hid (HBr.out.trans (hb2.mono HBr.out.size))
      have HRES2 := Lib.hid ((hb2.block w.heap.size (by omega)).trans HRES.out)
      have hsz2 : w.heap.size + 1 ≤ w2.heap.size := Nat.le_trans hsz hb2.size
      clear hb2 hsz
      have hll : (s.data.toList.drop j).length = s.size - j := by rw [List.length_drop, Utf.sizeL]
      have hres2 := HRES2.out
      have q0 : w2.cell? ⟨w.heap.size, 0, none⟩ = some (.int .i64 0) := Lib.cell_of_heap hres2 0
      have q1 : w2.cell? ⟨w.heap.size, 1, none⟩ = some (.int .i64 0) := Lib.cell_of_heap hres2 1
      have q2 : w2.cell? ⟨w.heap.size, 2, none⟩ = some (.string ⟨#[]⟩) := Lib.cell_of_heap hres2 2
      have f0 : w2.frozen? ⟨w.heap.size, 0, none⟩ = false := Lib.frozen_of_heap hres2 0
      have f1 : w2.frozen? ⟨w.heap.size, 1, none⟩ = false := Lib.frozen_of_heap hres2 1
      have f2 : w2.frozen? ⟨w.heap.size, 2, none⟩ = false := Lib.frozen_of_heap hres2 2
      clear hres2
      by_cases c6 : c = 65533
      · by_cases ck : k = 1
        · have g6 : ((c : Int) == 65533) = true := by simp [c6]
          have gk : ((k : Int) == 1) = true := by simp [ck]
          go_wp2_with fail
          refine bodyPost_ret (v := .tuple #[.agg #[.int .i64 0, .int .i64 0, .string ⟨#[]⟩], .int .i64 3]) (by simp [results, Tryd.results56, go_sem, q0, q1, q2]) rfl ⟨by rw [← HQ.out]; rw [if_pos (.inl ⟨c6, ck⟩)]; rfl, ?_⟩
          exact ((HBr2.out.setCell (Nat.le_refl _) _).setCell (Nat.le_refl _) _).setCell (Nat.le_refl _) _
        · have c1 : ¬ (c = 65533 ∧ k = 1) := fun q => ck q.2
          have g6 : ((c : Int) == 65533) = true := by simp [c6]
          have gk : ((k : Int) == 1) = false := by simp only [beq_eq_false_iff_ne]; omega
          have g10 : ((c : Int) == 10) = false := by simp only [beq_eq_false_iff_ne]; omega
          have g34 : ((c : Int) == 34) = false := by simp only [beq_eq_false_iff_ne]; omega
          have g92 : ((c : Int) == 92) = false := by simp only [beq_eq_false_iff_ne]; omega
          have hd := HD.out (fun q => c1 q)
          have hk4 := Utf.enc_pos c
          have hke : k = (Utf.enc c).length := hd.2.2
          have hrune : qgo m ((s.data.toList.drop j).drop k) (out ++ Utf.enc c) = R := by
            have := HQ.out
            rw [if_neg (fun q => q.elim c1 (fun h => by omega)), if_neg (fun h : c = 34 => by omega), if_neg (fun h : c = 92 => by omega)] at this
            exact this
          have HRU := Lib.hid hrune
          have hkj : k + j ≤ s.size := by
            have := congrArg List.length hd.2.1
            rw [List.length_append, List.length_drop, List.length_drop, Utf.sizeL] at this
            omega
          have hci : (c : Int) ≤ 2147483647 := by have := hd.1; unfold Utf.good at this; omega
          clear c6
          go_wp2_with fail
          refine (Tryd.Builder_WriteRune_k (w.heap.size + 1) (w.heap.size + 1) _ (c : Int) (by omega) hci w2 HB2.out (by rw [bytes_len]; omega) hsz2).mono ?_
          rintro e w3 ⟨rfl, h3, hb3, -⟩
          rw [rune_cells c hd.1, ← bytes_app] at h3
          have H3 := Lib.hid (show Lib.IsBuilderF 110 5 (w.heap.size + 1) (w.heap.size + 1) (Lib.byteCells (out ++ Utf.enc c)) w3 from .inr h3)
          have HBr3 := Lib.hid (HBr2.out.trans (hb3.mono (by omega)))
          have HRES3 := Lib.hid ((hb3.block w.heap.size (by omega)).trans HRES2.out)
          have hsz3 : w.heap.size + 1 ≤ w3.heap.size := Nat.le_trans hsz2 hb3.size
          clear h3 hb3 hd
          go_wp2_with fail
          go_roundw
          case rel => exact ⟨j + k, m, out ++ Utf.enc c, by omega, (by first | rfl | (simp; done) | (simp; omega)), by omega, by rw [List.length_append]; omega, by rw [← HRU.out, List.drop_drop], H3.out, HBr3.out, HRES3.out, hsz3⟩
          case measure => simp [intOf]; omega
      · have c1 : ¬ (c = 65533 ∧ k = 1) := fun q => c6 q.1
        have g6 : ((c : Int) == 65533) = false := by simp only [beq_eq_false_iff_ne]; omega
        by_cases c10 : c = 10
        · have g10 : ((c : Int) == 10) = true := by simp [c10]
          go_wp2_with fail
          refine bodyPost_ret (v := .tuple #[.agg #[.int .i64 0, .int .i64 0, .string ⟨#[]⟩], .int .i64 3]) (by simp [results, Tryd.results56, go_sem, q0, q1, q2]) rfl ⟨by rw [← HQ.out]; rw [if_pos (.inr c10)]; rfl, ?_⟩
          exact ((HBr2.out.setCell (Nat.le_refl _) _).setCell (Nat.le_refl _) _).setCell (Nat.le_refl _) _
        · have g10 : ((c : Int) == 10) = false := by simp only [beq_eq_false_iff_ne]; omega
          have hq0 := HQ.out
          rw [if_neg (fun q => q.elim c1 c10)] at hq0
          have HQ := Lib.hid hq0
          clear hq0
          by_cases c34 : c = 34
          · have g34 : ((c : Int) == 34) = true := by simp [c34]
            by_cases d1 : j + 1 < s.size
            · have gd : (j : Int) + 1 < (s.size : Int) := by omega
              go_wp2_with fail
              refine bodyPost_ret (v := .tuple #[.agg #[.int .i64 0, .int .i64 0, .string ⟨#[]⟩], .int .i64 3]) (by simp [results, Tryd.results56, go_sem, q0, q1, q2]) rfl ⟨by rw [← HQ.out]; rw [if_pos c34, if_pos (by omega)]; rfl, ?_⟩
              exact ((HBr2.out.setCell (Nat.le_refl _) _).setCell (Nat.le_refl _) _).setCell (Nat.le_refl _) _
            · have gd : ¬ (j : Int) + 1 < (s.size : Int) := by omega
              go_wp2_with fail
              refine (Tryd.Builder_Len_f (w.heap.size + 1) (w.heap.size + 1) _ w2 HB2.out).mono ?_
              rintro e w3 ⟨rfl, rfl⟩
              rw [bytes_len]
              by_cases d2 : 100 < out.length
              · have gd2 : (100 : Int) < (out.length : Int) := by omega
                go_wp2_with fail
                refine bodyPost_ret (v := .tuple #[.agg #[.int .i64 0, .int .i64 0, .string ⟨#[]⟩], .int .i64 2]) (by simp [results, Tryd.results56, go_sem, q0, q1, q2]) rfl ⟨by rw [← HQ.out]; rw [if_pos c34, if_neg (by omega), if_pos d2]; rfl, ?_⟩
                exact ((HBr2.out.setCell (Nat.le_refl _) _).setCell (Nat.le_refl _) _).setCell (Nat.le_refl _) _
              · have gd2 : ¬ (100 : Int) < (out.length : Int) := by omega
                go_wp2_with fail
                refine (Tryd.Builder_String_any_k (w.heap.size + 1) (w.heap.size + 1) out w3 HB2.out hsz2).mono ?_
                rintro e w4 ⟨rfl, -, hb4, -⟩
                have hres4 := (hb4.block w.heap.size (by omega)).trans HRES2.out
                have HBr4 := Lib.hid (HBr2.out.trans (hb4.mono (by omega)))
                have r0 : w4.cell? ⟨w.heap.size, 0, none⟩ = some (.int .i64 0) := Lib.cell_of_heap hres4 0
                have r1 : w4.cell? ⟨w.heap.size, 1, none⟩ = some (.int .i64 0) := Lib.cell_of_heap hres4 1
                have r2 : w4.cell? ⟨w.heap.size, 2, none⟩ = some (.string ⟨#[]⟩) := Lib.cell_of_heap hres4 2
                have e0 : w4.frozen? ⟨w.heap.size, 0, none⟩ = false := Lib.frozen_of_heap hres4 0
                have e1 : w4.frozen? ⟨w.heap.size, 1, none⟩ = false := Lib.frozen_of_heap hres4 1
                have e2 : w4.frozen? ⟨w.heap.size, 2, none⟩ = false := Lib.frozen_of_heap hres4 2
                clear hb4 hres4
                go_wp2_with fail
                refine bodyPost_ret (v := .tuple #[.agg #[.int .i64 3, .int .i64 0, .string ⟨out.toArray⟩], .int .i64 0]) (by simp [results, Tryd.results56, go_sem, r0, r1, r2]) rfl ⟨by rw [← HQ.out]; rw [if_pos c34, if_neg (by omega), if_neg d2]; rfl, ?_⟩
                exact ((HBr4.out.setCell (Nat.le_refl _) _).setCell (Nat.le_refl _) _).setCell (Nat.le_refl _) _
          · have g34 : ((c : Int) == 34) = false := by simp only [beq_eq_false_iff_ne]; omega
            have hq0 := HQ.out
            rw [if_neg c34] at hq0
            have HQ := Lib.hid hq0
            clear hq0
            by_cases c92 : c = 92
            · have g92 : ((c : Int) == 92) = true := by simp [c92]
              have hq0 := HQ.out
              rw [if_pos c92] at hq0
              have HQ := Lib.hid hq0
              clear hq0
              by_cases d1 : j + 1 = s.size
              · have gd : ((j : Int) + 1 == (s.size : Int)) = true := by simp only [beq_iff_eq]; omega
                go_wp2_with fail
                refine bodyPost_ret (v := .tuple #[.agg #[.int .i64 0, .int .i64 0, .string ⟨#[]⟩], .int .i64 3]) (by simp [results, Tryd.results56, go_sem, q0, q1, q2]) rfl ⟨by rw [← HQ.out]; rw [if_pos (by omega)]; rfl, ?_⟩
                exact ((HBr2.out.setCell (Nat.le_refl _) _).setCell (Nat.le_refl _) _).setCell (Nat.le_refl _) _
              · have gd : ((j : Int) + 1 == (s.size : Int)) = false := by simp only [beq_eq_false_iff_ne]; omega
                have hj1 : j + 1 < s.size := by omega
                have hj2 : (j : Int) + 1 < (s.size : Int) := by omega
                go_wp2_with fail
                have hgx : (s.data.toList.drop j).getD 1 0 = s[j + 1] := by
                  have := get_list s (j + 1) hj1
                  rw [← this]
                  simp [List.getD]
                generalize s[j + 1] = x at hgx ⊢
                have hck : k = 1 := by
                  have hd := (HD.out (fun q => c1 q)).2.2
                  rw [hd, c92]; rfl
                by_cases d92 : x.toNat = 92
                · have hi : Lib.indexByte (⟨#[92, 34, 110]⟩ : ByteArray).data.toList (x.toNat : Int).toNat.toUInt8 = 0 := by
                    have : x = 92 := UInt8.toNat_inj.1 d92
                    subst this; rfl
                  have hcon := Tryd.strings_IndexByte ⟨#[92, 34, 110]⟩ (x.toNat : Int) w2
                  rw [hi] at hcon
                  refine hcon.mono ?_
                  rintro e w3 ⟨rfl, rfl⟩
                  clear hcon
                  have hrun : qgo m ((s.data.toList.drop j).drop 2) (out ++ [92]) = R := by
                    have := HQ.out
                    rw [hgx, if_neg (by omega), if_pos d92] at this
                    exact this
                  have HRU := Lib.hid hrun
                  clear hrun
                  go_wp2_with fail
                  refine (Tryd.Builder_WriteByte_k (w.heap.size + 1) (w.heap.size + 1) _ 92 w3 HB2.out (by rw [bytes_len]; omega) hsz2).mono ?_
                  rintro e w4 ⟨rfl, h3, hb3, -⟩
                  have H3 := Lib.hid (show Lib.IsBuilderF 110 5 (w.heap.size + 1) (w.heap.size + 1) (Lib.byteCells (out ++ [92])) w4 from by rw [bytes_app]; exact .inr h3)
                  have HBr3 := Lib.hid (HBr2.out.trans (hb3.mono (by omega)))
                  have HRES3 := Lib.hid ((hb3.block w.heap.size (by omega)).trans HRES2.out)
                  have hsz3 : w.heap.size + 1 ≤ w4.heap.size := Nat.le_trans hsz2 hb3.size
                  clear h3 hb3
                  go_wp2_with fail
                  go_roundw
                  case rel => exact ⟨j + 2, m, out ++ [92], by omega, (by first | rfl | (simp; done) | (simp; omega)), by omega, by rw [List.length_append]; simp only [List.length_singleton]; omega, by rw [← HRU.out, List.drop_drop], H3.out, HBr3.out, HRES3.out, hsz3⟩
                  case measure => simp [intOf]; omega
                by_cases d34 : x.toNat = 34
                · have hi : Lib.indexByte (⟨#[92, 34, 110]⟩ : ByteArray).data.toList (x.toNat : Int).toNat.toUInt8 = 1 := by
                    have : x = 34 := UInt8.toNat_inj.1 d34
                    subst this; rfl
                  have hcon := Tryd.strings_IndexByte ⟨#[92, 34, 110]⟩ (x.toNat : Int) w2
                  rw [hi] at hcon
                  refine hcon.mono ?_
                  rintro e w3 ⟨rfl, rfl⟩
                  clear hcon
                  have hrun : qgo m ((s.data.toList.drop j).drop 2) (out ++ [34]) = R := by
                    have := HQ.out
                    rw [hgx, if_neg (by omega), if_neg d92, if_pos d34] at this
                    exact this
                  have HRU := Lib.hid hrun
                  clear hrun
                  go_wp2_with fail
                  refine (Tryd.Builder_WriteByte_k (w.heap.size + 1) (w.heap.size + 1) _ 34 w3 HB2.out (by rw [bytes_len]; omega) hsz2).mono ?_
                  rintro e w4 ⟨rfl, h3, hb3, -⟩
                  have H3 := Lib.hid (show Lib.IsBuilderF 110 5 (w.heap.size + 1) (w.heap.size + 1) (Lib.byteCells (out ++ [34])) w4 from by rw [bytes_app]; exact .inr h3)
                  have HBr3 := Lib.hid (HBr2.out.trans (hb3.mono (by omega)))
                  have HRES3 := Lib.hid ((hb3.block w.heap.size (by omega)).trans HRES2.out)
                  have hsz3 : w.heap.size + 1 ≤ w4.heap.size := Nat.le_trans hsz2 hb3.size
                  clear h3 hb3
                  go_wp2_with fail
                  go_roundw
                  case rel => exact ⟨j + 2, m, out ++ [34], by omega, (by first | rfl | (simp; done) | (simp; omega)), by omega, by rw [List.length_append]; simp only [List.length_singleton]; omega, by rw [← HRU.out, List.drop_drop], H3.out, HBr3.out, HRES3.out, hsz3⟩
                  case measure => simp [intOf]; omega
                by_cases d110 : x.toNat = 110
                · have hi : Lib.indexByte (⟨#[92, 34, 110]⟩ : ByteArray).data.toList (x.toNat : Int).toNat.toUInt8 = 2 := by
                    have : x = 110 := UInt8.toNat_inj.1 d110
                    subst this; rfl
                  have hcon := Tryd.strings_IndexByte ⟨#[92, 34, 110]⟩ (x.toNat : Int) w2
                  rw [hi] at hcon
                  refine hcon.mono ?_
                  rintro e w3 ⟨rfl, rfl⟩
                  clear hcon
                  have hrun : qgo m ((s.data.toList.drop j).drop 2) (out ++ [10]) = R := by
                    have := HQ.out
                    rw [hgx, if_neg (by omega), if_neg d92, if_neg d34, if_pos d110] at this
                    exact this
                  have HRU := Lib.hid hrun
                  clear hrun
                  go_wp2_with fail
                  refine (Tryd.Builder_WriteByte_k (w.heap.size + 1) (w.heap.size + 1) _ 10 w3 HB2.out (by rw [bytes_len]; omega) hsz2).mono ?_
                  rintro e w4 ⟨rfl, h3, hb3, -⟩
                  have H3 := Lib.hid (show Lib.IsBuilderF 110 5 (w.heap.size + 1) (w.heap.size + 1) (Lib.byteCells (out ++ [10])) w4 from by rw [bytes_app]; exact .inr h3)
                  have HBr3 := Lib.hid (HBr2.out.trans (hb3.mono (by omega)))
                  have HRES3 := Lib.hid ((hb3.block w.heap.size (by omega)).trans HRES2.out)
                  have hsz3 : w.heap.size + 1 ≤ w4.heap.size := Nat.le_trans hsz2 hb3.size
                  clear h3 hb3
                  go_wp2_with fail
                  go_roundw
                  case rel => exact ⟨j + 2, m, out ++ [10], by omega, (by first | rfl | (simp; done) | (simp; omega)), by omega, by rw [List.length_append]; simp only [List.length_singleton]; omega, by rw [← HRU.out, List.drop_drop], H3.out, HBr3.out, HRES3.out, hsz3⟩
                  case measure => simp [intOf]; omega
                have hi : Lib.indexByte (⟨#[92, 34, 110]⟩ : ByteArray).data.toList (x.toNat : Int).toNat.toUInt8 = -1 := by
                  have hx : (x.toNat : Int).toNat.toUInt8 = x := by simp
                  rw [hx]
                  have e1 : ((92 : UInt8) == x) = false := by simp only [beq_eq_false_iff_ne]; exact fun q => d92 (by rw [← q]; rfl)
                  have e2 : ((34 : UInt8) == x) = false := by simp only [beq_eq_false_iff_ne]; exact fun q => d34 (by rw [← q]; rfl)
                  have e3 : ((110 : UInt8) == x) = false := by simp only [beq_eq_false_iff_ne]; exact fun q => d110 (by rw [← q]; rfl)
                  simp [Lib.indexByte, e1, e2, e3]
                have hcon := Tryd.strings_IndexByte ⟨#[92, 34, 110]⟩ (x.toNat : Int) w2
                rw [hi] at hcon
                refine hcon.mono ?_
                rintro e w3 ⟨rfl, rfl⟩
                clear hcon
                go_wp2_with fail
                refine bodyPost_ret (v := .tuple #[.agg #[.int .i64 0, .int .i64 0, .string ⟨#[]⟩], .int .i64 3]) (by simp [results, Tryd.results56, go_sem, q0, q1, q2]) rfl ⟨by rw [← HQ.out]; rw [hgx, if_neg (by omega), if_neg d92, if_neg d34, if_neg d110]; rfl, ?_⟩
                exact ((HBr2.out.setCell (Nat.le_refl _) _).setCell (Nat.le_refl _) _).setCell (Nat.le_refl _) _
            · have g92 : ((c : Int) == 92) = false := by simp only [beq_eq_false_iff_ne]; omega
              have hd := HD.out (fun q => c1 q)
              have hk4 := Utf.enc_pos c
              have hke : k = (Utf.enc c).length := hd.2.2
              have hrune : qgo m ((s.data.toList.drop j).drop k) (out ++ Utf.enc c) = R := by
                have := HQ.out
                rw [if_neg c92] at this
                exact this
              have HRU := Lib.hid hrune
              have hkj : k + j ≤ s.size := by
                have := congrArg List.length hd.2.1
                rw [List.length_append, List.length_drop, List.length_drop, Utf.sizeL] at this
                omega
              have hci : (c : Int) ≤ 2147483647 := by have := hd.1; unfold Utf.good at this; omega
              clear c6
              go_wp2_with fail
              refine (Tryd.Builder_WriteRune_k (w.heap.size + 1) (w.heap.size + 1) _ (c : Int) (by omega) hci w2 HB2.out (by rw [bytes_len]; omega) hsz2).mono ?_
              rintro e w3 ⟨rfl, h3, hb3, -⟩
              rw [rune_cells c hd.1, ← bytes_app] at h3
              have H3 := Lib.hid (show Lib.IsBuilderF 110 5 (w.heap.size + 1) (w.heap.size + 1) (Lib.byteCells (out ++ Utf.enc c)) w3 from .inr h3)
              have HBr3 := Lib.hid (HBr2.out.trans (hb3.mono (by omega)))
              have HRES3 := Lib.hid ((hb3.block w.heap.size (by omega)).trans HRES2.out)
              have hsz3 : w.heap.size + 1 ≤ w3.heap.size := Nat.le_trans hsz2 hb3.size
              clear h3 hb3 hd
              go_wp2_with fail
              go_roundw
              case rel => exact ⟨j + k, m, out ++ Utf.enc c, by omega, (by first | rfl | (simp; done) | (simp; omega)), by omega, by rw [List.length_append]; omega, by rw [← HRU.out, List.drop_drop], H3.out, HBr3.out, HRES3.out, hsz3⟩
              case measure => simp [intOf]; omega
    · have hlt' : ¬ (j : Int) < (s.size : Int) := by omega
      have hl : s.data.toList.drop j = [] := List.drop_of_length_le (by rw [Utf.sizeL]; omega)
      obtain ⟨m, rfl⟩ : ∃ m, n = m + 1 := ⟨n - 1, by omega⟩
      rw [qgo, if_pos hl] at hq
      have HQ := Lib.hid hq
      have HBr := Lib.hid hBr
      have q0 : wr.cell? ⟨w.heap.size, 0, none⟩ = some (.int .i64 0) := Lib.cell_of_heap hres 0
      have q1 : wr.cell? ⟨w.heap.size, 1, none⟩ = some (.int .i64 0) := Lib.cell_of_heap hres 1
      have q2 : wr.cell? ⟨w.heap.size, 2, none⟩ = some (.string ⟨#[]⟩) := Lib.cell_of_heap hres 2
      have f0 : wr.frozen? ⟨w.heap.size, 0, none⟩ = false := Lib.frozen_of_heap hres 0
      have f1 : wr.frozen? ⟨w.heap.size, 1, none⟩ = false := Lib.frozen_of_heap hres 1
      have f2 : wr.frozen? ⟨w.heap.size, 2, none⟩ = false := Lib.frozen_of_heap hres 2
      clear hq hB hBr hres hl
      go_wp2_with fail
      refine bodyPost_ret (v := .tuple #[.agg #[.int .i64 0, .int .i64 0, .string ⟨#[]⟩], .int .i64 3]) (by simp [results, Tryd.results56, go_sem, q0, q1, q2]) rfl ⟨by rw [← HQ.out]; rfl, ?_⟩
      exact ((HBr.out.setCell (Nat.le_refl _) _).setCell (Nat.le_refl _) _).setCell (Nat.le_refl _) _
end Go.Proofs.YtiobdkibbhpojaaDoor
