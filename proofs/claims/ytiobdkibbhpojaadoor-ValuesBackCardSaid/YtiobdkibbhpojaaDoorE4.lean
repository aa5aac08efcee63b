/- exprs.check and exprs.Check return what chk and eCheck say. The expression lies below a block, what is left is a cell above it. -/
import Derived.Test.YtiobdkibbhpojaaDoorE1
import Derived.Deep.LoopGhost
set_option linter.unusedVariables false
set_option linter.unusedSimpArgs false
namespace Go.Proofs.YtiobdkibbhpojaaDoor
open Go.RowKit

def ChkSaid (x : Ex) : Prop := ∀ (a : Option Addr) (cap B : Nat) (w : World) (pb po : Nat) (left : Int), KidsAt w B x.kids a → B ≤ pb → 2 ≤ pb → w.cell? ⟨pb, po, none⟩ = some (.int .i64 left) → w.frozen? ⟨pb, po, none⟩ = false → 0 ≤ left → left ≤ 60 → Tabs w →
    Calls Tryd.prog 74 #[x.val a cap, .pointer (some ⟨pb, po, none⟩)] w fun e w' => e = .returned (.int .i64 (chk x left).1) ∧ Below w.heap.size (w.setCell ⟨pb, po, none⟩ (.int .i64 (chk x left).2)) w'

theorem Tabs.low {w w' : World} (h : Tabs w) (hb : Below 2 w w') : Tabs w' :=
  ⟨fun c hc => by rw [hb.cell (p := ⟨0, c, none⟩) (by simp)]; exact h.1 c hc, fun i hi => ⟨by rw [hb.cell (p := ⟨1, 2 * i, none⟩) (by simp)]; exact (h.2 i hi).1, by rw [hb.cell (p := ⟨1, 2 * i + 1, none⟩) (by simp)]; exact (h.2 i hi).2⟩⟩
/-- A cell that is written once more. -/
theorem setB {N : Nat} {w W : World} {b o : Nat} {u v : Value} (h : Below N (w.setCell ⟨b, o, none⟩ u) W) : Below N (w.setCell ⟨b, o, none⟩ v) (W.setCell ⟨b, o, none⟩ v) := by
  refine ⟨h.os, h.tape, h.output, by have := h.size; simpa [World.setCell] using this, fun k hk => ?_⟩
  have e := h.block k hk
  simp only [World.setCell, Array.getElem?_modify] at e ⊢
  by_cases hb : b = k
  · subst hb
    simp only [if_true] at e ⊢
    rw [e]
    cases hw : w.heap[b]? with
    | none => rfl
    | some x =>
      cases x <;> simp
  · simp only [hb, if_false] at e ⊢
    exact e
theorem setB0 {w : World} {b o : Nat} {u : Value} (hb : b < w.heap.size) (B : Nat) (hB : B ≤ b) : Below B w (w.setCell ⟨b, o, none⟩ u) := (Below.refl _ _).setCell hB u

set_option maxRecDepth 100000 in
set_option maxHeartbeats 4000000 in
theorem check_step (hv : Said.ValidString) (k : Int) (nm : ByteArray) (t n : Int) (s : ByteArray) (l : List Ex) (ih : ∀ x ∈ l, ChkSaid x) : ChkSaid (.mk k nm t n s l) := by
  intro a cap B w pb po left hk hB hp2 hp hpf hl0 hl1 ht
  change KidsAt w B l a at hk
  have hpb : pb < w.heap.size := World.block_lt_of_cell? _ _ hp
  unfold Ex.val
  simp only
  have hbare := bare_run t n s
  unfold vv at hbare
  generalize hbb : bareB t n s = bb at hbare
  have HBB := Lib.hid hbb
  have Ht := Lib.hid ht
  have Hk := Lib.hid hk
  have HI := Lib.hid ih
  clear hbb ht hk ih
  by_cases c0 : left - 1 < 0
  · obtain rfl : left = 0 := by omega
    go_enter Tryd.func74, Tryd.ntmps74
    go_wp2_with fail
    go_ret
    have e : chk (.mk k nm t n s l) 0 = (2, -1) := by simp [chk]
    rw [e]
    exact ⟨rfl, (Below.refl _ _).alloc (by simp) _⟩
  have hne : decide (left - 1 < 0) = false := by simpa using c0
  have hlo : 1 ≤ left := by omega
  have hB0 : Below w.heap.size (w.setCell ⟨pb, po, none⟩ (.int .i64 (left - 1))) ((w.setCell ⟨pb, po, none⟩ (.int .i64 (left - 1))).alloc (.cells #[.int .i64 k, .string nm, .int .i64 t, .int .i64 n, .string s, .slice a l.length cap] 35)) := (Below.refl _ _).alloc (by simp) _
  have HB0 := Lib.hid hB0
  have hT0 : Tabs ((w.setCell ⟨pb, po, none⟩ (.int .i64 (left - 1))).alloc (.cells #[.int .i64 k, .string nm, .int .i64 t, .int .i64 n, .string s, .slice a l.length cap] 35)) := by
    exact (Tabs.low Ht.out ((Below.refl 2 w).setCell (p := ⟨pb, po, none⟩) hp2 _)).alloc _
  have HT0 := Lib.hid hT0
  clear hB0 hT0
  by_cases k1 : k = 1
  · subst k1
    by_cases hn : nm.toList = [] ∧ l.length = 0
    · have e : chk (.mk 1 nm t n s l) left = (vcheck t n s, left - 1) := by simp [chk, c0, hn.1, hn.2]
      rw [e]
      have hn1 : nm.toList.isEmpty = true := by simp [hn.1]
      have hl0 : ((l.length : Int) == 0) = true := by simp [hn.2]
      clear hn e c0
      go_enter Tryd.func74, Tryd.ntmps74
      go_wp2_with (go_at_call 22; refine (check_any hv t n s _ HT0.out).mono ?_; rintro e w1 ⟨rfl, hb1⟩)
      go_ret
      exact ⟨rfl, HB0.out.trans (hb1.mono (by simp))⟩
    · have e : chk (.mk 1 nm t n s l) left = (1, left - 1) := by
        have : ¬ ((1 : Int) = 1 ∧ nm.toList = [] ∧ l.length = 0) := fun h => hn ⟨h.2.1, h.2.2⟩
        unfold chk
        rw [if_neg c0, if_neg this]
        simp
      rw [e]
      have HN := Lib.hid hn
      clear hn e c0
      go_enter Tryd.func74, Tryd.ntmps74
      go_wp2_with fail
      all_goals first
        | (go_ret; exact ⟨rfl, HB0.out⟩)
        | (exfalso; exact HN.out (by simp_all))
  by_cases k2 : k = 2
  · subst k2
    by_cases hn : bb = true ∧ l.length = 0
    · obtain ⟨rfl, hl⟩ := hn
      have e : chk (.mk 2 nm t n s l) left = (if isNameB nm = true then 0 else 1, left - 1) := by
        unfold chk
        rw [if_neg c0, if_neg (by simp), HBB.out, hl]
        by_cases hi : isNameB nm = true
        · simp [hi]
        · simp [hi]
      rw [e]
      have hl0 : ((l.length : Int) == 0) = true := by simp [hl]
      have hname := isName_any nm
      generalize isNameB nm = ib at hname
      have HNA := Lib.hid hname
      clear hl e c0 hname
      cases ib
      all_goals
        go_enter Tryd.func74, Tryd.ntmps74
        go_wp2_with (go_at_call 99; refine (HNA.out _).mono ?_; rintro e w1 ⟨rfl, hb1⟩; obtain ⟨hc1, hf1⟩ := bcell hb1; have hz1 : w.heap.size < w1.heap.size := (by have := hb1.size; simp at this; omega))
        go_ret
        exact ⟨rfl, HB0.out.trans (hb1.mono (by simp))⟩
    · have e : chk (.mk 2 nm t n s l) left = (1, left - 1) := by
        have h2 : ¬ ((2 : Int) = 2 ∧ bb = true ∧ l.length = 0 ∧ isNameB nm = true) := fun h => hn ⟨h.2.1, h.2.2.1⟩
        unfold chk
        rw [if_neg c0, if_neg (by simp), HBB.out, if_neg h2]
        simp
      rw [e]
      have HN := Lib.hid hn
      clear hn e c0
      go_enter Tryd.func74, Tryd.ntmps74
      go_wp2_with fail
      all_goals first
        | (go_ret; exact ⟨rfl, HB0.out⟩)
        | (exfalso; exact HN.out (by simp_all))
  by_cases k3 : k = 3
  · subst k3
    have hsingle := single_any nm
    have hlevel := level_any nm
    by_cases hn : bb = true
    · subst hn
      have hop : opB nm l.length = ((singleL nm.toList && l.length == 1) || (decide (0 < levelL nm.toList) && l.length == 2)) := rfl
      have e : chk (.mk 3 nm t n s l) left = if opB nm l.length = true then chks l (left - 1) else (1, left - 1) := by
        unfold chk
        rw [if_neg c0, if_neg (by simp), if_neg (by simp), HBB.out]
        simp
      rw [hop] at e
      rw [e]
      generalize singleL nm.toList = sb at hsingle e ⊢
      generalize levelL nm.toList = lv at hlevel e ⊢
      have HSI := Lib.hid hsingle
      have HLE := Lib.hid hlevel
      clear hsingle hlevel hop e c0
      obtain ⟨R, hR⟩ : ∃ R, (if ((sb && l.length == 1) || (decide (0 < lv) && l.length == 2)) = true then chks l (left - 1) else (1, left - 1)) = R := ⟨_, rfl⟩
      rw [hR]
      have HR := Lib.hid hR
      clear hR
      by_cases q1 : sb = true ∧ l.length = 1
      · obtain ⟨rfl, hl1⟩ := q1
        have hb1 : ((l.length : Int) == 1) = true := by simp [hl1]
        have hRR : R = chks l (left - 1) := by rw [← HR.out]; simp [hl1]
        have HRR := Lib.hid hRR
        have hlb : l.length ≤ 2 := by omega
        clear hRR hl1
        go_enter Tryd.func74, Tryd.ntmps74
        go_wp2_with (first | (go_at_call 100; refine (HSI.out _).mono ?_; rintro e w1 ⟨rfl, rfl⟩) | (go_at_call 91; refine (HLE.out _).mono ?_; rintro e w1 ⟨rfl, rfl⟩))
        clear hb1
        go_loopw [91] (fun i wr => ∃ (j : Nat) (cur : Int), j ≤ l.length ∧ i = .int .i64 j ∧ chks l (left - 1) = chks (l.drop j) cur ∧ 0 ≤ cur ∧ cur ≤ 60 ∧ Below w.heap.size (w.setCell ⟨pb, po, none⟩ (.int .i64 cur)) wr) (fun i _ => l.length - (intOf i).toNat)
        case atStart => exact ⟨0, left - 1, by omega, rfl, rfl, by omega, by omega, HB0.out⟩
        case round =>
          obtain ⟨j, cur, hj, rfl, hch, hcu0, hcu1, hBr⟩ := hrel
          have HCH := Lib.hid hch
          have HBr := Lib.hid hBr
          clear hch hBr
          by_cases hlt : j < l.length
          · obtain ⟨x, hx⟩ : ∃ x, l[j]? = some x := ⟨l[j], by simp [hlt]⟩
            have hmem : x ∈ l := List.mem_of_getElem? hx
            have hcs : chks (l.drop j) cur = if (chk x cur).1 ≠ 0 then chk x cur else chks (l.drop (j + 1)) (chk x cur).2 := by
              obtain ⟨h1, h2⟩ := List.getElem?_eq_some_iff.1 hx
              rw [List.drop_eq_getElem_cons h1, h2]; rfl
            have hle := chk_left x cur hcu0 hcu1
            have hsaid := HI.out x hmem
            obtain ⟨b, o, rfl⟩ := KidsAt.some Hk.out (by intro h; rw [h] at hlt; exact absurd hlt (by simp))
            have hBw : Below B w wr := (setB0 hpb B hB).trans (HBr.out.mono (by omega))
            have hxa := (KidsAt.get Hk.out hx).below hBw
            obtain ⟨k', nm', t', n', s', l'⟩ := x
            obtain ⟨hbB, g0, g1, g2, g3, g4, a', cap', g5, hk'⟩ := hxa
            have p0 : wr.cell? ⟨pb, po, none⟩ = some (.int .i64 cur) := keepU HBr.out hpb (World.cell?_setCell_same _ _ _ hp)
            have p1 : wr.frozen? ⟨pb, po, none⟩ = false := by rw [HBr.out.frozen (p := ⟨pb, po, none⟩) hpb, World.frozen?_setCell]; exact hpf
            have hcon := fun W h1 h2 h3 h4 => hsaid a' cap' B W pb po cur h1 hB hp2 h2 h3 hcu0 hcu1 h4
            unfold Ex.val at hcon
            simp only at hcon
            generalize chk (.mk k' nm' t' n' s' l') cur = r at hcs hle hcon
            have HCS := Lib.hid hcs
            have HCON := Lib.hid hcon
            have HLE := Lib.hid hle
            have hzr : w.heap.size ≤ wr.heap.size := by have := HBr.out.size; simpa [World.setCell] using this
            clear hcs hcon hle hsaid hmem hx
            have hBB : Below wr.heap.size wr (wr.alloc (.cells #[.int .i64 k', .string nm', .int .i64 t', .int .i64 n', .string s', .slice a' l'.length cap'] 35)) := (Below.refl _ _).alloc (Nat.le_refl _) _
            have HBB2 := Lib.hid hBB
            have HLT := Lib.hid hlt
            clear hBB
            go_wp2_with (go_at_call 74; refine (HCON.out _ ?h1 ?h2 ?h3 ?h4).mono ?_)
            case h1 => exact KidsAt.below (HBB2.out.mono (by omega)) l' a' hk'
            case h2 => exact keepU HBB2.out (by omega) p0
            case h3 => rw [HBB2.out.frozen (p := ⟨pb, po, none⟩) (by show pb < _; omega)]; exact p1
            case h4 => exact (Tabs.low (Tabs.low Ht.out ((Below.refl 2 w).setCell (p := ⟨pb, po, none⟩) hp2 _)) (HBr.out.mono (by omega))).alloc _
            rintro e w2 ⟨rfl, hb2⟩
            have hB2 : Below w.heap.size (w.setCell ⟨pb, po, none⟩ (.int .i64 r.2)) w2 := (setB (HBr.out.trans (HBB2.out.mono hzr))).trans (hb2.mono (by simp; omega))
            have HB2 := Lib.hid hB2
            clear hB2 hb2 p0 p1 g0 g1 g2 g3 g4 g5 hk'
            by_cases hr : r.1 = 0
            · have hr0 : (r.1 != 0) = false := by simp [hr]
              go_wp2_with fail
              go_roundw
              case rel => exact ⟨j + 1, r.2, (by have := HLT.out; omega), by go_num, by rw [HCH.out, HCS.out, if_neg (by simpa using hr)], (HLE.out.2.2 hr), by have := HLE.out.2.1; omega, HB2.out⟩
              case measure => have := HLT.out; simp [intOf]; omega
            · have hr0 : (r.1 != 0) = true := by simpa using hr
              go_wp2_with fail
              go_ret
              have e : R = r := by rw [HRR.out, HCH.out, HCS.out, if_pos hr]
              rw [e]
              exact ⟨rfl, HB2.out⟩
          · go_wp2_with fail
            go_ret
            have e : R = (0, cur) := by rw [HRR.out, HCH.out, List.drop_of_length_le (by omega)]; rfl
            rw [e]
            exact ⟨rfl, HBr.out⟩
      by_cases q2 : 0 < lv ∧ l.length = 2
      · obtain ⟨hlv, hl2⟩ := q2
        have hb1 : ((l.length : Int) == 2) = true := by simp [hl2]
        have hb0 : ((l.length : Int) == 1) = false := by simp [hl2]
        have hRR : R = chks l (left - 1) := by rw [← HR.out]; simp [hl2, hlv]
        have HRR := Lib.hid hRR
        have hlb : l.length ≤ 2 := by omega
        clear hRR hl2 q1
        cases sb
        · go_enter Tryd.func74, Tryd.ntmps74
          go_wp2_with (first | (go_at_call 100; refine (HSI.out _).mono ?_; rintro e w1 ⟨rfl, rfl⟩) | (go_at_call 91; refine (HLE.out _).mono ?_; rintro e w1 ⟨rfl, rfl⟩))
          clear hb1 hb0
          go_loopw [91] (fun i wr => ∃ (j : Nat) (cur : Int), j ≤ l.length ∧ i = .int .i64 j ∧ chks l (left - 1) = chks (l.drop j) cur ∧ 0 ≤ cur ∧ cur ≤ 60 ∧ Below w.heap.size (w.setCell ⟨pb, po, none⟩ (.int .i64 cur)) wr) (fun i _ => l.length - (intOf i).toNat)
          case atStart => exact ⟨0, left - 1, by omega, rfl, rfl, by omega, by omega, HB0.out⟩
          case round =>
            obtain ⟨j, cur, hj, rfl, hch, hcu0, hcu1, hBr⟩ := hrel
            have HCH := Lib.hid hch
            have HBr := Lib.hid hBr
            clear hch hBr
            by_cases hlt : j < l.length
            · obtain ⟨x, hx⟩ : ∃ x, l[j]? = some x := ⟨l[j], by simp [hlt]⟩
              have hmem : x ∈ l := List.mem_of_getElem? hx
              have hcs : chks (l.drop j) cur = if (chk x cur).1 ≠ 0 then chk x cur else chks (l.drop (j + 1)) (chk x cur).2 := by
                obtain ⟨h1, h2⟩ := List.getElem?_eq_some_iff.1 hx
                rw [List.drop_eq_getElem_cons h1, h2]; rfl
              have hle := chk_left x cur hcu0 hcu1
              have hsaid := HI.out x hmem
              obtain ⟨b, o, rfl⟩ := KidsAt.some Hk.out (by intro h; rw [h] at hlt; exact absurd hlt (by simp))
              have hBw : Below B w wr := (setB0 hpb B hB).trans (HBr.out.mono (by omega))
              have hxa := (KidsAt.get Hk.out hx).below hBw
              obtain ⟨k', nm', t', n', s', l'⟩ := x
              obtain ⟨hbB, g0, g1, g2, g3, g4, a', cap', g5, hk'⟩ := hxa
              have p0 : wr.cell? ⟨pb, po, none⟩ = some (.int .i64 cur) := keepU HBr.out hpb (World.cell?_setCell_same _ _ _ hp)
              have p1 : wr.frozen? ⟨pb, po, none⟩ = false := by rw [HBr.out.frozen (p := ⟨pb, po, none⟩) hpb, World.frozen?_setCell]; exact hpf
              have hcon := fun W h1 h2 h3 h4 => hsaid a' cap' B W pb po cur h1 hB hp2 h2 h3 hcu0 hcu1 h4
              unfold Ex.val at hcon
              simp only at hcon
              generalize chk (.mk k' nm' t' n' s' l') cur = r at hcs hle hcon
              have HCS := Lib.hid hcs
              have HCON := Lib.hid hcon
              have HLE := Lib.hid hle
              have hzr : w.heap.size ≤ wr.heap.size := by have := HBr.out.size; simpa [World.setCell] using this
              clear hcs hcon hle hsaid hmem hx
              have hBB : Below wr.heap.size wr (wr.alloc (.cells #[.int .i64 k', .string nm', .int .i64 t', .int .i64 n', .string s', .slice a' l'.length cap'] 35)) := (Below.refl _ _).alloc (Nat.le_refl _) _
              have HBB2 := Lib.hid hBB
              have HLT := Lib.hid hlt
              clear hBB
              go_wp2_with (go_at_call 74; refine (HCON.out _ ?h1 ?h2 ?h3 ?h4).mono ?_)
              case h1 => exact KidsAt.below (HBB2.out.mono (by omega)) l' a' hk'
              case h2 => exact keepU HBB2.out (by omega) p0
              case h3 => rw [HBB2.out.frozen (p := ⟨pb, po, none⟩) (by show pb < _; omega)]; exact p1
              case h4 => exact (Tabs.low (Tabs.low Ht.out ((Below.refl 2 w).setCell (p := ⟨pb, po, none⟩) hp2 _)) (HBr.out.mono (by omega))).alloc _
              rintro e w2 ⟨rfl, hb2⟩
              have hB2 : Below w.heap.size (w.setCell ⟨pb, po, none⟩ (.int .i64 r.2)) w2 := (setB (HBr.out.trans (HBB2.out.mono hzr))).trans (hb2.mono (by simp; omega))
              have HB2 := Lib.hid hB2
              clear hB2 hb2 p0 p1 g0 g1 g2 g3 g4 g5 hk'
              by_cases hr : r.1 = 0
              · have hr0 : (r.1 != 0) = false := by simp [hr]
                go_wp2_with fail
                go_roundw
                case rel => exact ⟨j + 1, r.2, (by have := HLT.out; omega), by go_num, by rw [HCH.out, HCS.out, if_neg (by simpa using hr)], (HLE.out.2.2 hr), by have := HLE.out.2.1; omega, HB2.out⟩
                case measure => have := HLT.out; simp [intOf]; omega
              · have hr0 : (r.1 != 0) = true := by simpa using hr
                go_wp2_with fail
                go_ret
                have e : R = r := by rw [HRR.out, HCH.out, HCS.out, if_pos hr]
                rw [e]
                exact ⟨rfl, HB2.out⟩
            · go_wp2_with fail
              go_ret
              have e : R = (0, cur) := by rw [HRR.out, HCH.out, List.drop_of_length_le (by omega)]; rfl
              rw [e]
              exact ⟨rfl, HBr.out⟩
        · go_enter Tryd.func74, Tryd.ntmps74
          go_wp2_with (first | (go_at_call 100; refine (HSI.out _).mono ?_; rintro e w1 ⟨rfl, rfl⟩) | (go_at_call 91; refine (HLE.out _).mono ?_; rintro e w1 ⟨rfl, rfl⟩))
          clear hb1 hb0
          go_loopw [91] (fun i wr => ∃ (j : Nat) (cur : Int), j ≤ l.length ∧ i = .int .i64 j ∧ chks l (left - 1) = chks (l.drop j) cur ∧ 0 ≤ cur ∧ cur ≤ 60 ∧ Below w.heap.size (w.setCell ⟨pb, po, none⟩ (.int .i64 cur)) wr) (fun i _ => l.length - (intOf i).toNat)
          case atStart => exact ⟨0, left - 1, by omega, rfl, rfl, by omega, by omega, HB0.out⟩
          case round =>
            obtain ⟨j, cur, hj, rfl, hch, hcu0, hcu1, hBr⟩ := hrel
            have HCH := Lib.hid hch
            have HBr := Lib.hid hBr
            clear hch hBr
            by_cases hlt : j < l.length
            · obtain ⟨x, hx⟩ : ∃ x, l[j]? = some x := ⟨l[j], by simp [hlt]⟩
              have hmem : x ∈ l := List.mem_of_getElem? hx
              have hcs : chks (l.drop j) cur = if (chk x cur).1 ≠ 0 then chk x cur else chks (l.drop (j + 1)) (chk x cur).2 := by
                obtain ⟨h1, h2⟩ := List.getElem?_eq_some_iff.1 hx
                rw [List.drop_eq_getElem_cons h1, h2]; rfl
              have hle := chk_left x cur hcu0 hcu1
              have hsaid := HI.out x hmem
              obtain ⟨b, o, rfl⟩ := KidsAt.some Hk.out (by intro h; rw [h] at hlt; exact absurd hlt (by simp))
              have hBw : Below B w wr := (setB0 hpb B hB).trans (HBr.out.mono (by omega))
              have hxa := (KidsAt.get Hk.out hx).below hBw
              obtain ⟨k', nm', t', n', s', l'⟩ := x
              obtain ⟨hbB, g0, g1, g2, g3, g4, a', cap', g5, hk'⟩ := hxa
              have p0 : wr.cell? ⟨pb, po, none⟩ = some (.int .i64 cur) := keepU HBr.out hpb (World.cell?_setCell_same _ _ _ hp)
              have p1 : wr.frozen? ⟨pb, po, none⟩ = false := by rw [HBr.out.frozen (p := ⟨pb, po, none⟩) hpb, World.frozen?_setCell]; exact hpf
              have hcon := fun W h1 h2 h3 h4 => hsaid a' cap' B W pb po cur h1 hB hp2 h2 h3 hcu0 hcu1 h4
              unfold Ex.val at hcon
              simp only at hcon
              generalize chk (.mk k' nm' t' n' s' l') cur = r at hcs hle hcon
              have HCS := Lib.hid hcs
              have HCON := Lib.hid hcon
              have HLE := Lib.hid hle
              have hzr : w.heap.size ≤ wr.heap.size := by have := HBr.out.size; simpa [World.setCell] using this
              clear hcs hcon hle hsaid hmem hx
              have hBB : Below wr.heap.size wr (wr.alloc (.cells #[.int .i64 k', .string nm', .int .i64 t', .int .i64 n', .string s', .slice a' l'.length cap'] 35)) := (Below.refl _ _).alloc (Nat.le_refl _) _
              have HBB2 := Lib.hid hBB
              have HLT := Lib.hid hlt
              clear hBB
              go_wp2_with (go_at_call 74; refine (HCON.out _ ?h1 ?h2 ?h3 ?h4).mono ?_)
              case h1 => exact KidsAt.below (HBB2.out.mono (by omega)) l' a' hk'
              case h2 => exact keepU HBB2.out (by omega) p0
              case h3 => rw [HBB2.out.frozen (p := ⟨pb, po, none⟩) (by show pb < _; omega)]; exact p1
              case h4 => exact (Tabs.low (Tabs.low Ht.out ((Below.refl 2 w).setCell (p := ⟨pb, po, none⟩) hp2 _)) (HBr.out.mono (by omega))).alloc _
              rintro e w2 ⟨rfl, hb2⟩
              have hB2 : Below w.heap.size (w.setCell ⟨pb, po, none⟩ (.int .i64 r.2)) w2 := (setB (HBr.out.trans (HBB2.out.mono hzr))).trans (hb2.mono (by simp; omega))
              have HB2 := Lib.hid hB2
              clear hB2 hb2 p0 p1 g0 g1 g2 g3 g4 g5 hk'
              by_cases hr : r.1 = 0
              · have hr0 : (r.1 != 0) = false := by simp [hr]
                go_wp2_with fail
                go_roundw
                case rel => exact ⟨j + 1, r.2, (by have := HLT.out; omega), by go_num, by rw [HCH.out, HCS.out, if_neg (by simpa using hr)], (HLE.out.2.2 hr), by have := HLE.out.2.1; omega, HB2.out⟩
                case measure => have := HLT.out; simp [intOf]; omega
              · have hr0 : (r.1 != 0) = true := by simpa using hr
                go_wp2_with fail
                go_ret
                have e : R = r := by rw [HRR.out, HCH.out, HCS.out, if_pos hr]
                rw [e]
                exact ⟨rfl, HB2.out⟩
            · go_wp2_with fail
              go_ret
              have e : R = (0, cur) := by rw [HRR.out, HCH.out, List.drop_of_length_le (by omega)]; rfl
              rw [e]
              exact ⟨rfl, HBr.out⟩
      · have e : R = (1, left - 1) := by
          rw [← HR.out, if_neg]
          simp only [Bool.or_eq_true, Bool.and_eq_true, beq_iff_eq, decide_eq_true_eq]
          rintro (h | h)
          · exact q1 h
          · exact q2 h
        rw [e]
        have Q1 := Lib.hid q1
        have Q2 := Lib.hid q2
        clear q1 q2 e
        go_enter Tryd.func74, Tryd.ntmps74
        go_wp2_with (first | (go_at_call 100; refine (HSI.out _).mono ?_; rintro e w1 ⟨rfl, rfl⟩) | (go_at_call 91; refine (HLE.out _).mono ?_; rintro e w1 ⟨rfl, rfl⟩))
        all_goals first
          | (go_ret; exact ⟨rfl, HB0.out⟩)
          | (refine absurd ?_ Q1.out; refine ⟨?_, ?_⟩ <;> first | assumption | (simp_all; done) | (simp_all; omega))
          | (refine absurd ?_ Q2.out; refine ⟨?_, ?_⟩ <;> first | assumption | (simp_all; done) | (simp_all; omega))
    · have e : chk (.mk 3 nm t n s l) left = (1, left - 1) := by
        have h3 : ¬ ((3 : Int) = 3 ∧ bb = true ∧ opB nm l.length = true) := fun h => hn h.2.1
        unfold chk
        rw [if_neg c0, if_neg (by simp), if_neg (by simp), HBB.out, if_neg h3]
      rw [e]
      have hn' : bb = false := by simpa using hn
      subst hn'
      clear hn e c0 hsingle hlevel
      go_enter Tryd.func74, Tryd.ntmps74
      go_wp2_with fail
      go_ret
      exact ⟨rfl, HB0.out⟩
  · have e : chk (.mk k nm t n s l) left = (1, left - 1) := by
      unfold chk
      rw [if_neg c0, if_neg (fun h => k1 h.1), if_neg (fun h => k2 h.1), if_neg (fun h => k3 h.1)]
    rw [e]
    clear e c0
    go_enter Tryd.func74, Tryd.ntmps74
    go_wp2_with fail
    go_ret
    exact ⟨rfl, HB0.out⟩
end Go.Proofs.YtiobdkibbhpojaaDoor
