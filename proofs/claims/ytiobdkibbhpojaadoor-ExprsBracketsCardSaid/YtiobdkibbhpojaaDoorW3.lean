/- values.text, Length, Joined and Turned return what the plain functions beside them say; nothing that was there is changed. The tables of unicode slash utf8 read as laid. -/
import Derived.Test.YtiobdkibbhpojaaDoorW1
import Derived.Test.YtiobdkibbhpojaaDoorUtf
import Derived.Deep.LoopGhost
set_option linter.unusedVariables false
set_option linter.unusedSimpArgs false
namespace Go.Proofs.YtiobdkibbhpojaaDoor
open Go.RowKit

/-- a value as three parts. -/
structure Va where
  t : Int
  n : Int
  s : ByteArray
def Va.bad (v : Va) : Int := vcheck v.t v.n v.s
/-- values.text. -/
def textE : List Va → Int
  | [] => 0
  | v :: r => if v.bad ≠ 0 then v.bad else if v.t ≠ 3 then 5 else textE r

/-- a row of values lies in memory. -/
def RowVa (w : World) (b o : Nat) (vs : List Va) : Prop :=
  ∀ i v, vs[i]? = some v → w.cell? ⟨b, o + i * 3, none⟩ = some (.int .i64 v.t) ∧ w.cell? ⟨b, o + i * 3 + 1, none⟩ = some (.int .i64 v.n) ∧ w.cell? ⟨b, o + i * 3 + 2, none⟩ = some (.string v.s)

theorem ret_int {k : IntKind} {a b : Int} (h : a = b) : Ending.returned (.int k a) = Ending.returned (.int k b) := by rw [h]
theorem keepB {w w' : World} (hb : Below w.heap.size w w') {a : Addr} {v : Value} (h : w.cell? a = some v) : w'.cell? a = some v := by
  rw [hb.cell (World.block_lt_of_cell? w a h)]; exact h

set_option maxHeartbeats 1000000 in
theorem text_any (hv : Said.ValidString) (vs : List Va) (b o cap : Nat) (w : World) (ht : Tabs w) (hr : RowVa w b o vs) (hlen : vs.length ≤ 2) :
    Calls Tryd.prog 41 #[.slice (some ⟨b, o, none⟩) vs.length cap] w fun e w' => e = .returned (.int .i64 (textE vs)) ∧ Below w.heap.size w w' := by
  have Ht := Lib.hid ht
  have Hr := Lib.hid hr
  clear ht hr
  go_enter Tryd.func41, Tryd.ntmps41
  go_wp2_with fail
  go_loopw [8] (fun i wr => ∃ k : Nat, k ≤ vs.length ∧ i = .int .i64 k ∧ textE vs = textE (vs.drop k) ∧ Below w.heap.size w wr) (fun i _ => vs.length - (intOf i).toNat)
  case atStart => exact ⟨0, by omega, rfl, rfl, Below.refl _ _⟩
  case round =>
    obtain ⟨k, hk, rfl, he, hB⟩ := hrel
    have He := Lib.hid he
    clear he
    by_cases hlt : k < vs.length
    · obtain ⟨v, hvv⟩ : ∃ v, vs[k]? = some v := ⟨vs[k], by simp [hlt]⟩
      obtain ⟨c0, c1, c2⟩ := Hr.out k v hvv
      have d0 := keepB hB c0
      have d1 := keepB hB c1
      have d2 := keepB hB c2
      have hs : textE (vs.drop k) = if v.bad ≠ 0 then v.bad else if v.t ≠ 3 then 5 else textE (vs.drop (k + 1)) := by
        obtain ⟨h1, h2⟩ := List.getElem?_eq_some_iff.1 hvv
        rw [List.drop_eq_getElem_cons h1, h2]; rfl
      have Hs := Lib.hid hs
      have Hc := check_any hv v.t v.n v.s
      change ∀ w, Tabs w → Calls Tryd.prog 22 _ w (fun e w' => e = .returned (.int .i64 v.bad) ∧ _) at Hc
      generalize v.bad = bad at Hs Hc
      have HC := Lib.hid Hc
      have HB := Lib.hid hB
      clear c0 c1 c2 hs hvv Hc hB
      go_wp2_with (go_at_call 22; refine (HC.out _ (Ht.out.below (HB.out.alloc HB.out.size _))).mono ?_; rintro e w1 ⟨rfl, hb1⟩; obtain ⟨hc1, hf1⟩ := bcell hb1; have hz1 : wr.heap.size < w1.heap.size := (by have := hb1.size; simp at this; omega))
      · go_ret
        have hb : bad ≠ 0 := by simp_all
        refine ⟨?_, (HB.out.alloc HB.out.size _).trans (hb1.mono (by have := HB.out.size; simp; omega))⟩
        exact ret_int (by rw [He.out, Hs.out, if_pos hb])
      · go_ret
        have hb : ¬ bad ≠ 0 := by simp_all
        have hb2 : v.t ≠ 3 := by simp_all
        refine ⟨?_, (HB.out.alloc HB.out.size _).trans (hb1.mono (by have := HB.out.size; simp; omega))⟩
        exact ret_int (by rw [He.out, Hs.out, if_neg hb, if_pos hb2])
      · have hb : ¬ bad ≠ 0 := by simp_all
        have hb2 : ¬ v.t ≠ 3 := by simp_all
        refine ⟨⟨k + 1, by omega, by go_num, ?_, (HB.out.alloc HB.out.size _).trans (hb1.mono (by have := HB.out.size; simp; omega))⟩, by simp [intOf]; omega⟩
        rw [He.out, Hs.out, if_neg hb, if_neg hb2]
    · have hk' : k = vs.length := by omega
      go_wp2_with fail
      go_ret
      refine ⟨?_, hB⟩
      rw [He.out, hk']
      simp [textE]

def Said.RuneCount : Prop := ∀ (s : ByteArray) (w : World), s.size < 9223372036854775807 →
    Calls Tryd.prog 43 #[.string s] w fun e w' => e = .returned (.int .i64 (Lib.runeCount s)) ∧ Below w.heap.size w w'

/-- what Length tells. -/
def lenN (e n : Int) : Int := if e ≠ 0 then 0 else n

set_option maxHeartbeats 1000000 in
theorem length_any (hv : Said.ValidString) (hc : Said.RuneCount) (t n : Int) (s : ByteArray) (hs : s.size ≤ maxLen) (w : World) (ht : Tabs w) :
    Calls Tryd.prog 14 #[.agg #[.int .i64 t, .int .i64 n, .string s]] w fun e w' =>
      e = .returned (.tuple #[.int .i64 (lenN (textE [⟨t, n, s⟩]) (Lib.runeCount s)), .int .i64 (textE [⟨t, n, s⟩])]) ∧ Below w.heap.size w w' := by
  have ht1 := text_any hv [⟨t, n, s⟩]
  have h100 : textE [⟨t, n, s⟩] = 0 → s.size < 9223372036854775807 := by
    intro h
    simp only [textE, Va.bad, vcheck] at h
    (repeat' split at h) <;> simp_all <;> omega
  generalize textE [⟨t, n, s⟩] = E at ht1 h100 ⊢
  have HT := Lib.hid ht1
  have H100 := Lib.hid h100
  have Ht := Lib.hid ht
  clear ht1 ht h100 hs
  go_enter Tryd.func14, Tryd.ntmps14
  have Hc := Lib.hid hc
  clear hc
  go_wp2_with (first
    | (go_at_call 41; refine (HT.out _ _ 1 _ (Ht.out.below (((Below.refl _ _).alloc (Nat.le_refl _) _).alloc (by simp) _)) (by intro i v hi; match i, hi with | 0, hi => simp at hi; subst hi; exact ⟨by go_simp, by go_simp, by go_simp⟩) (by simp)).mono ?_; rintro e w1 ⟨rfl, hb1⟩; obtain ⟨hc1, hf1⟩ := bcell hb1)
    | (go_at_call 43; refine (Hc.out _ _ (H100.out (by simp_all))).mono ?_; rintro e w2 ⟨rfl, hb2⟩))
  · go_ret2
    have hE : E ≠ 0 := by simp_all
    exact ⟨by simp [lenN, hE], (((Below.refl _ _).alloc (Nat.le_refl _) _).alloc (by simp) _).trans (hb1.mono (by simp; omega))⟩
  · go_wp2
    go_ret2
    have hE : E = 0 := by simp_all
    subst hE
    refine ⟨by simp [lenN], ?_⟩
    have hB1 := (((Below.refl _ _).alloc (Nat.le_refl _) _).alloc (by simp) _).trans (hb1.mono (show w.heap.size ≤ _ by simp; omega))
    exact hB1.trans (hb2.mono hB1.size)
theorem get_list (s : ByteArray) (k : Nat) (h : k < s.size) : s.data.toList.getD k 0 = s[k] := by
  rw [Lib.getD_get!' s k]
  exact Utf8W.get!_of_lt s k h
end Go.Proofs.YtiobdkibbhpojaaDoor
