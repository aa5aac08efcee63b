/- exprs.sort and exprs.Sort return what srt says. The expression, the names and the sorts lie below a block; at most 2 to the 47 names. -/
import Derived.Test.YtiobdkibbhpojaaDoorE5
import Derived.Deep.QuietTactic
import Derived.BigQuiet
import Derived.IntWalk
set_option linter.unusedVariables false
set_option linter.unusedSimpArgs false
namespace Go.Proofs.YtiobdkibbhpojaaDoor
open Go.RowKit

theorem ret2_int {a b c d : Int} (h1 : a = b) (h2 : c = d) : Ending.returned (.tuple #[.int .i64 a, .int .i64 c]) = Ending.returned (.tuple #[.int .i64 b, .int .i64 d]) := by rw [h1, h2]
theorem drewB' {B : Nat} {a w : World} (h : Below B a w) (n : Nat) : Below B a (w.drewN n) := h.trans ⟨rfl, rfl, rfl, Nat.le_refl _, fun _ _ => rfl⟩
/-- A row of strings; of numbers. -/
def StrsAt (w : World) (B : Nat) (l : List ByteArray) (a : Option Addr) : Prop :=
  l = [] ∨ ∃ b o, a = some ⟨b, o, none⟩ ∧ b < B ∧ ∀ i s, l[i]? = some s → w.cell? ⟨b, o + i, none⟩ = some (.string s)
def IntsAt (w : World) (B : Nat) (l : List Int) (a : Option Addr) : Prop :=
  l = [] ∨ ∃ b o, a = some ⟨b, o, none⟩ ∧ b < B ∧ ∀ i s, l[i]? = some s → w.cell? ⟨b, o + i, none⟩ = some (.int .i64 s)
theorem StrsAt.below {B : Nat} {w w' : World} (hb : Below B w w') {l : List ByteArray} {a : Option Addr} : StrsAt w B l a → StrsAt w' B l a
  | .inl h => .inl h
  | .inr ⟨b, o, e, hl, h⟩ => .inr ⟨b, o, e, hl, fun i s hi => keepU hb hl (h i s hi)⟩
theorem IntsAt.below {B : Nat} {w w' : World} (hb : Below B w w') {l : List Int} {a : Option Addr} : IntsAt w B l a → IntsAt w' B l a
  | .inl h => .inl h
  | .inr ⟨b, o, e, hl, h⟩ => .inr ⟨b, o, e, hl, fun i s hi => keepU hb hl (h i s hi)⟩

/-- What the last one of a name is: among the first m. -/
def look (names : List ByteArray) (sorts : List Int) (nm : List UInt8) : Nat → Int × Int
  | 0 => (0, 4)
  | m + 1 => if (names.getD m ByteArray.empty).toList = nm then (sorts.getD m 0, 0) else look names sorts nm m
mutual
/-- exprs.sort. -/
def srt (names : List ByteArray) (sorts : List Int) : Ex → Int × Int
  | .mk k nm t n s l => if k = 1 then (t, 0) else if k = 2 then look names sorts nm.toList names.length else srts names sorts l (inL nm.toList) (inL nm.toList == 0) (outL nm.toList)
def srts (names : List ByteArray) (sorts : List Int) : List Ex → Int → Bool → Int → Int × Int
  | [], _, _, out => (out, 0)
  | x :: l, inn, fst, out =>
    if (srt names sorts x).2 ≠ 0 then (0, (srt names sorts x).2)
    else if (srt names sorts x).1 ≠ (if fst then (srt names sorts x).1 else inn) then (0, 5)
    else srts names sorts l (if fst then (srt names sorts x).1 else inn) false out
end

def SrtSaid (names : List ByteArray) (sorts : List Int) (x : Ex) : Prop := ∀ (a na sa : Option Addr) (cap nc sc B : Nat) (w : World), KidsAt w B x.kids a → StrsAt w B names na → IntsAt w B sorts sa → B ≤ w.heap.size →
    Calls Tryd.prog 46 #[x.val a cap, .slice na names.length nc, .slice sa sorts.length sc] w fun e w' => e = .returned (.tuple #[.int .i64 (srt names sorts x).1, .int .i64 (srt names sorts x).2]) ∧ Below w.heap.size w w'

set_option maxRecDepth 100000 in
set_option maxHeartbeats 4000000 in
theorem sort_name (names : List ByteArray) (sorts : List Int) (hlen : names.length = sorts.length) (hN : names.length ≤ 140737488355328) (nm : ByteArray) (t n : Int) (s : ByteArray) (l : List Ex) : SrtSaid names sorts (.mk 2 nm t n s l) := by
  intro a na sa cap nc sc B w hk hna hsa hB
  have e : srt names sorts (.mk 2 nm t n s l) = look names sorts nm.toList names.length := by unfold srt; simp
  rw [e]
  unfold Ex.val
  simp only
  obtain ⟨R, hR⟩ : ∃ R, look names sorts nm.toList names.length = R := ⟨_, rfl⟩
  rw [hR]
  have HR := Lib.hid hR
  have HNA := Lib.hid hna
  have HSA := Lib.hid hsa
  have HLN := Lib.hid hlen
  clear hR hna hsa hlen e hk
  go_enter Tryd.func46, Tryd.ntmps46
  go_wp2_with fail
  go_loopw [8] (fun i wr => ∃ (j : Nat), j ≤ names.length ∧ i = .int .i64 ((j : Int) - 1) ∧ look names sorts nm.toList j = R ∧ Below w.heap.size w wr ∧ wr.cell? ⟨w.heap.size, 1, none⟩ = some (.string nm)) (fun i _ => (intOf i + 1).toNat)
  case atStart => exact ⟨names.length, by omega, by first | rfl | simp, HR.out, (Below.refl _ _).alloc (Nat.le_refl _) _, by go_simp⟩
  case round =>
    obtain ⟨j, hj, rfl, hlk, hBr, hbox⟩ := hrel
    have HLK := Lib.hid hlk
    have HBr := Lib.hid hBr
    clear hlk hBr
    by_cases hj0 : j = 0
    · subst hj0
      go_wp2_with fail
      go_ret2
      refine ⟨?_, HBr.out⟩
      rw [← HLK.out]
      rfl
    · obtain ⟨m, rfl⟩ : ∃ m, j = m + 1 := ⟨j - 1, by omega⟩
      have hm1 : (((m + 1 : Nat) : Int) - 1) = (m : Int) := by omega
      rw [hm1]
      have hmn : m < names.length := by omega
      have hms : m < sorts.length := by rw [← HLN.out]; exact hmn
      have hne : names ≠ [] := by intro h; rw [h] at hmn; exact absurd hmn (by simp)
      have hse : sorts ≠ [] := by intro h; rw [h] at hms; exact absurd hms (by simp)
      obtain ⟨nb, no, rfl, hnb, hnc⟩ := HNA.out.resolve_left hne
      obtain ⟨sb, so, rfl, hsb, hsc⟩ := HSA.out.resolve_left hse
      have c0 : wr.cell? ⟨nb, no + m, none⟩ = some (.string (names.getD m ByteArray.empty)) := keepU (HBr.out.mono hB) hnb (hnc m _ (by simp [List.getD, hmn]))
      have c1 : wr.cell? ⟨sb, so + m, none⟩ = some (.int .i64 (sorts.getD m 0)) := keepU (HBr.out.mono hB) hsb (hsc m _ (by simp [List.getD, hms]))
      have hl1 : look names sorts nm.toList (m + 1) = if (names.getD m ByteArray.empty).toList = nm.toList then (sorts.getD m 0, 0) else look names sorts nm.toList m := rfl
      generalize names.getD m ByteArray.empty = nmm at c0 hl1
      generalize sorts.getD m 0 = som at c1 hl1
      have HL1 := Lib.hid hl1
      have hmi : (m : Int) < (names.length : Int) := by omega
      have hmj : (m : Int) < (sorts.length : Int) := by omega
      clear hl1 hnc hsc hne hse
      by_cases hq : nmm.toList = nm.toList
      · have hq1 : (nmm.toList == nm.toList) = true := by simp [hq]
        have HQ := Lib.hid hq
        clear hq
        go_wp2_with fail
        go_quiet (fail)
        go_wp2_with fail
        go_ret2
        refine ⟨?_, drewB' HBr.out _⟩
        have e : R = (som, 0) := by rw [← HLK.out, HL1.out, if_pos HQ.out]
        exact ret2_int (show som = R.1 by rw [e]) (show (0 : Int) = R.2 by rw [e])
      · have hq1 : (nmm.toList == nm.toList) = false := by simp [hq]
        have HQ := Lib.hid hq
        clear hq
        go_wp2_with fail
        go_quiet (fail)
        go_wp2_with fail
        go_roundw
        case rel => exact ⟨m, by omega, rfl, by rw [← HLK.out, HL1.out, if_neg HQ.out], drewB' HBr.out _, by go_simp⟩
        case measure => simp [intOf]

set_option maxRecDepth 100000 in
set_option maxHeartbeats 4000000 in
theorem sort_op (names : List ByteArray) (sorts : List Int) (k : Int) (nm : ByteArray) (t n : Int) (s : ByteArray) (l : List Ex) (hk1 : k ≠ 1) (hk2 : k ≠ 2) (hll : l.length ≤ 140737488355328) (ih : ∀ x ∈ l, SrtSaid names sorts x) : SrtSaid names sorts (.mk k nm t n s l) := by
  intro a na sa cap nc sc B w hk hna hsa hB
  change KidsAt w B l a at hk
  have e : srt names sorts (.mk k nm t n s l) = srts names sorts l (inL nm.toList) (inL nm.toList == 0) (outL nm.toList) := by unfold srt; rw [if_neg hk1, if_neg hk2]
  rw [e]
  unfold Ex.val
  simp only
  have htk := takes_any nm
  generalize inL nm.toList = inn at htk ⊢
  generalize outL nm.toList = out at htk ⊢
  obtain ⟨R, hR⟩ : ∃ R, srts names sorts l inn (inn == 0) out = R := ⟨_, rfl⟩
  rw [hR]
  have HR := Lib.hid hR
  have HNA := Lib.hid hna
  have HSA := Lib.hid hsa
  have HK := Lib.hid hk
  have HI := Lib.hid ih
  have HTK := Lib.hid htk
  clear hR hna hsa e hk ih htk
  have kk1 : (k == 1) = false := by simpa using hk1
  have kk2 : (k == 2) = false := by simpa using hk2
  by_cases hany : inn = 0
  · subst hany
    go_enter Tryd.func46, Tryd.ntmps46
    go_wp2_with (go_at_call 75; refine (HTK.out _).mono ?_; rintro e w1 ⟨rfl, rfl⟩)
    go_loopw [9, 54] (fun c i wr => ∃ (j : Nat) (cin : Int), j ≤ l.length ∧ i = .int .i64 j ∧ c = .int .i64 cin ∧ R = srts names sorts (l.drop j) cin (j == 0) out ∧ Below w.heap.size w wr) (fun _ i _ => l.length - (intOf i).toNat)
    case atStart => exact ⟨0, _, by omega, rfl, rfl, by rw [← HR.out]; simp, (Below.refl _ _).alloc (Nat.le_refl _) _⟩
    case round =>
      obtain ⟨j, cin, hj, rfl, rfl, hch, hBr⟩ := hrel
      have HCH := Lib.hid hch
      have HBr := Lib.hid hBr
      clear hch hBr
      have hzr : w.heap.size ≤ wr.heap.size := HBr.out.size
      by_cases hlt : j < l.length
      · obtain ⟨x, hx⟩ : ∃ x, l[j]? = some x := ⟨l[j], by simp [hlt]⟩
        have hmem : x ∈ l := List.mem_of_getElem? hx
        have hcs : ∀ cin fst, srts names sorts (l.drop j) cin fst out = if (srt names sorts x).2 ≠ 0 then (0, (srt names sorts x).2) else if (srt names sorts x).1 ≠ (if fst then (srt names sorts x).1 else cin) then (0, 5) else srts names sorts (l.drop (j + 1)) (if fst then (srt names sorts x).1 else cin) false out := by
          intro cin fst
          obtain ⟨h1, h2⟩ := List.getElem?_eq_some_iff.1 hx
          rw [List.drop_eq_getElem_cons h1, h2, srts]
        have hsaid := HI.out x hmem
        obtain ⟨b, o, rfl⟩ := KidsAt.some HK.out (by intro h; rw [h] at hlt; exact absurd hlt (by simp))
        have hBw : Below B w wr := HBr.out.mono hB
        have hxa := (KidsAt.get HK.out hx).below hBw
        obtain ⟨k', nm', t', n', s', l'⟩ := x
        obtain ⟨hbB, g0, g1, g2, g3, g4, a', cap', g5, hk'⟩ := hxa
        have hcon := fun W h1 h2 h3 h4 => hsaid a' na sa cap' nc sc B W h1 h2 h3 h4
        unfold Ex.val at hcon
        simp only at hcon
        generalize srt names sorts (.mk k' nm' t' n' s' l') = r at hcs hcon
        have HCS := Lib.hid hcs
        have HCON := Lib.hid hcon
        have hBB : Below wr.heap.size wr (wr.alloc (.cells #[.int .i64 k', .string nm', .int .i64 t', .int .i64 n', .string s', .slice a' l'.length cap'] 35)) := (Below.refl _ _).alloc (Nat.le_refl _) _
        have HBB2 := Lib.hid hBB
        have hB2' : Below B w (wr.alloc (.cells #[.int .i64 k', .string nm', .int .i64 t', .int .i64 n', .string s', .slice a' l'.length cap'] 35)) := hBw.trans (hBB.mono (by omega))
        have HBW2 := Lib.hid hB2'
        have HLT := Lib.hid hlt
        clear hcs hcon hsaid hmem hx hBB hB2' hBw
        go_wp2_with (go_at_call 46; refine (HCON.out _ ?h1 ?h2 ?h3 ?h4).mono ?_)
        case h1 => exact KidsAt.below (HBB2.out.mono (by omega)) l' a' hk'
        case h2 => exact StrsAt.below HBW2.out HNA.out
        case h3 => exact IntsAt.below HBW2.out HSA.out
        case h4 => simp; omega
        rintro e w2 ⟨rfl, hb2⟩
        have hB2 : Below w.heap.size w w2 := (HBr.out.trans (HBB2.out.mono hzr)).trans (hb2.mono (by simp; omega))
        have HB2 := Lib.hid hB2
        clear hB2 hb2 g0 g1 g2 g3 g4 g5 hk'
        by_cases hr : r.2 = 0
        · have hr0 : (r.2 != 0) = false := by simp [hr]
          by_cases hj0 : j = 0
          · subst hj0
            have hss : (r.1 != r.1) = false := by simp
            go_wp2_with fail
            go_roundw
            case rel => exact ⟨1, r.1, (by have := HLT.out; omega), by go_num, rfl, by rw [HCH.out, HCS.out, if_neg (by simpa using hr)]; simp, HB2.out⟩
            case measure => have := HLT.out; simp [intOf]; omega
          · have hj1 : ((j : Int) == 0) = false := by simp [hj0]
            have hjb : (j == 0) = false := by simpa using hj0
            have HJB := Lib.hid hjb
            clear hjb
            by_cases hc : r.1 = cin
            · have hc1 : (r.1 != cin) = false := by simp [hc]
              have HC := Lib.hid hc
              clear hc
              go_wp2_with fail
              go_roundw
              case rel => exact ⟨j + 1, cin, (by have := HLT.out; omega), by go_num, rfl, by rw [HCH.out, HCS.out, if_neg (by simpa using hr)]; simp [HJB.out, HC.out], HB2.out⟩
              case measure => have := HLT.out; simp [intOf]; omega
            · have hc1 : (r.1 != cin) = true := by simpa using hc
              have HC := Lib.hid hc
              clear hc
              go_wp2_with fail
              go_ret2
              have e : R = (0, 5) := by rw [HCH.out, HCS.out, if_neg (by simpa using hr)]; simp [HJB.out, HC.out]
              exact ⟨ret2_int (show (0 : Int) = R.1 by rw [e]) (show (5 : Int) = R.2 by rw [e]), HB2.out⟩
        · have hr0 : (r.2 != 0) = true := by simpa using hr
          go_wp2_with fail
          go_ret2
          have e : R = (0, r.2) := by rw [HCH.out, HCS.out, if_pos hr]
          exact ⟨ret2_int (show (0 : Int) = R.1 by rw [e]) (show r.2 = R.2 by rw [e]), HB2.out⟩
      · go_wp2_with fail
        go_ret2
        have e : R = (out, 0) := by rw [HCH.out, List.drop_of_length_le (by omega), srts]
        exact ⟨ret2_int (show out = R.1 by rw [e]) (show (0 : Int) = R.2 by rw [e]), HBr.out⟩
  · have hi1 : (inn == 0) = false := by simpa using hany
    have hRn : R = srts names sorts l inn false out := by rw [← HR.out, hi1]
    have HRN := Lib.hid hRn
    clear hany hRn HR
    go_enter Tryd.func46, Tryd.ntmps46
    go_wp2_with (go_at_call 75; refine (HTK.out _).mono ?_; rintro e w1 ⟨rfl, rfl⟩)
    go_loopw [9, 54] (fun c i wr => ∃ (j : Nat) (cin : Int), j ≤ l.length ∧ i = .int .i64 j ∧ c = .int .i64 cin ∧ R = srts names sorts (l.drop j) cin (false) out ∧ Below w.heap.size w wr) (fun _ i _ => l.length - (intOf i).toNat)
    case atStart => exact ⟨0, _, by omega, rfl, rfl, HRN.out, (Below.refl _ _).alloc (Nat.le_refl _) _⟩
    case round =>
      obtain ⟨j, cin, hj, rfl, rfl, hch, hBr⟩ := hrel
      have HCH := Lib.hid hch
      have HBr := Lib.hid hBr
      clear hch hBr
      have hzr : w.heap.size ≤ wr.heap.size := HBr.out.size
      by_cases hlt : j < l.length
      · obtain ⟨x, hx⟩ : ∃ x, l[j]? = some x := ⟨l[j], by simp [hlt]⟩
        have hmem : x ∈ l := List.mem_of_getElem? hx
        have hcs : ∀ cin fst, srts names sorts (l.drop j) cin fst out = if (srt names sorts x).2 ≠ 0 then (0, (srt names sorts x).2) else if (srt names sorts x).1 ≠ (if fst then (srt names sorts x).1 else cin) then (0, 5) else srts names sorts (l.drop (j + 1)) (if fst then (srt names sorts x).1 else cin) false out := by
          intro cin fst
          obtain ⟨h1, h2⟩ := List.getElem?_eq_some_iff.1 hx
          rw [List.drop_eq_getElem_cons h1, h2, srts]
        have hsaid := HI.out x hmem
        obtain ⟨b, o, rfl⟩ := KidsAt.some HK.out (by intro h; rw [h] at hlt; exact absurd hlt (by simp))
        have hBw : Below B w wr := HBr.out.mono hB
        have hxa := (KidsAt.get HK.out hx).below hBw
        obtain ⟨k', nm', t', n', s', l'⟩ := x
        obtain ⟨hbB, g0, g1, g2, g3, g4, a', cap', g5, hk'⟩ := hxa
        have hcon := fun W h1 h2 h3 h4 => hsaid a' na sa cap' nc sc B W h1 h2 h3 h4
        unfold Ex.val at hcon
        simp only at hcon
        generalize srt names sorts (.mk k' nm' t' n' s' l') = r at hcs hcon
        have HCS := Lib.hid hcs
        have HCON := Lib.hid hcon
        have hBB : Below wr.heap.size wr (wr.alloc (.cells #[.int .i64 k', .string nm', .int .i64 t', .int .i64 n', .string s', .slice a' l'.length cap'] 35)) := (Below.refl _ _).alloc (Nat.le_refl _) _
        have HBB2 := Lib.hid hBB
        have hB2' : Below B w (wr.alloc (.cells #[.int .i64 k', .string nm', .int .i64 t', .int .i64 n', .string s', .slice a' l'.length cap'] 35)) := hBw.trans (hBB.mono (by omega))
        have HBW2 := Lib.hid hB2'
        have HLT := Lib.hid hlt
        clear hcs hcon hsaid hmem hx hBB hB2' hBw
        go_wp2_with (go_at_call 46; refine (HCON.out _ ?h1 ?h2 ?h3 ?h4).mono ?_)
        case h1 => exact KidsAt.below (HBB2.out.mono (by omega)) l' a' hk'
        case h2 => exact StrsAt.below HBW2.out HNA.out
        case h3 => exact IntsAt.below HBW2.out HSA.out
        case h4 => simp; omega
        rintro e w2 ⟨rfl, hb2⟩
        have hB2 : Below w.heap.size w w2 := (HBr.out.trans (HBB2.out.mono hzr)).trans (hb2.mono (by simp; omega))
        have HB2 := Lib.hid hB2
        clear hB2 hb2 g0 g1 g2 g3 g4 g5 hk'
        by_cases hr : r.2 = 0
        · have hr0 : (r.2 != 0) = false := by simp [hr]
          by_cases hc : r.1 = cin
          · have hc1 : (r.1 != cin) = false := by simp [hc]
            have HC := Lib.hid hc
            clear hc
            go_wp2_with fail
            go_roundw
            case rel => exact ⟨j + 1, cin, (by have := HLT.out; omega), by go_num, rfl, by rw [HCH.out, HCS.out, if_neg (by simpa using hr)]; simp [HC.out], HB2.out⟩
            case measure => have := HLT.out; simp [intOf]; omega
          · have hc1 : (r.1 != cin) = true := by simpa using hc
            have HC := Lib.hid hc
            clear hc
            go_wp2_with fail
            go_ret2
            have e : R = (0, 5) := by rw [HCH.out, HCS.out, if_neg (by simpa using hr)]; simp [HC.out]
            exact ⟨ret2_int (show (0 : Int) = R.1 by rw [e]) (show (5 : Int) = R.2 by rw [e]), HB2.out⟩
        · have hr0 : (r.2 != 0) = true := by simpa using hr
          go_wp2_with fail
          go_ret2
          have e : R = (0, r.2) := by rw [HCH.out, HCS.out, if_pos hr]
          exact ⟨ret2_int (show (0 : Int) = R.1 by rw [e]) (show r.2 = R.2 by rw [e]), HB2.out⟩
      · go_wp2_with fail
        go_ret2
        have e : R = (out, 0) := by rw [HCH.out, List.drop_of_length_le (by omega), srts]
        exact ⟨ret2_int (show out = R.1 by rw [e]) (show (0 : Int) = R.2 by rw [e]), HBr.out⟩

set_option maxHeartbeats 1000000 in
theorem sort_lit (names : List ByteArray) (sorts : List Int) (nm : ByteArray) (t n : Int) (s : ByteArray) (l : List Ex) : SrtSaid names sorts (.mk 1 nm t n s l) := by
  intro a na sa cap nc sc B w hk hna hsa hB
  have e : srt names sorts (.mk 1 nm t n s l) = (t, 0) := by unfold srt; simp
  rw [e]
  unfold Ex.val
  simp only
  clear hk hna hsa e
  go_enter Tryd.func46, Tryd.ntmps46
  go_wp2_with fail
  go_ret2
  exact ⟨rfl, (Below.refl _ _).alloc (Nat.le_refl _) _⟩

mutual
/-- no list of kids is longer than 2 to the 47. -/
def Ex.fits : Ex → Prop | .mk _ _ _ _ _ l => l.length ≤ 140737488355328 ∧ Ex.allFit l
def Ex.allFit : List Ex → Prop | [] => True | x :: l => Ex.fits x ∧ Ex.allFit l
end
theorem Ex.fit_mem : ∀ {l : List Ex} {x : Ex}, Ex.allFit l → x ∈ l → x.fits
  | y :: l, x, h, hx => by
    rcases List.mem_cons.1 hx with rfl | hx
    · exact h.1
    · exact Ex.fit_mem h.2 hx

theorem sort_all (names : List ByteArray) (sorts : List Int) (hlen : names.length = sorts.length) (hN : names.length ≤ 140737488355328) : ∀ (N : Nat) (x : Ex), x.size ≤ N → x.fits → SrtSaid names sorts x
  | 0, x, h, _ => by have := Ex.size_pos x; omega
  | N + 1, .mk k nm t n s l, h, hf => by
    by_cases h1 : k = 1
    · subst h1; exact sort_lit names sorts nm t n s l
    by_cases h2 : k = 2
    · subst h2; exact sort_name names sorts hlen hN nm t n s l
    exact sort_op names sorts k nm t n s l h1 h2 hf.1 (fun x hx => sort_all names sorts hlen hN N x (by
      have := Ex.size_mem hx
      simp only [Ex.size] at h
      omega) (Ex.fit_mem hf.2 hx))

/-- What exprs.Sort tells. -/
def sortE (x : Ex) (names : List ByteArray) (sorts : List Int) : Int × Int :=
  if eCheck x ≠ 0 then (0, eCheck x) else if names.length ≠ sorts.length then (0, 1) else srt names sorts x

/-- What Check lets by has few kids. -/
theorem opB_len {nm : ByteArray} {m : Nat} (h : opB nm m = true) : m ≤ 2 := by
  unfold opB at h
  simp only [Bool.or_eq_true, Bool.and_eq_true, beq_iff_eq] at h
  omega
mutual
theorem fits_of_chk : ∀ (x : Ex) (left : Int), (chk x left).1 = 0 → x.fits
  | .mk k nm t n s l, left, h => by
    unfold chk at h
    by_cases c0 : left - 1 < 0
    · rw [if_pos c0] at h; simp at h
    rw [if_neg c0] at h
    by_cases c1 : k = 1 ∧ nm.toList = [] ∧ l.length = 0
    · have : l = [] := List.length_eq_zero_iff.1 c1.2.2
      subst this
      exact ⟨by simp, trivial⟩
    rw [if_neg c1] at h
    by_cases c2 : k = 2 ∧ bareB t n s = true ∧ l.length = 0 ∧ isNameB nm = true
    · have : l = [] := List.length_eq_zero_iff.1 c2.2.2.1
      subst this
      exact ⟨by simp, trivial⟩
    rw [if_neg c2] at h
    by_cases c3 : k = 3 ∧ bareB t n s = true ∧ opB nm l.length = true
    · rw [if_pos c3] at h
      exact ⟨by have := opB_len c3.2.2; omega, fits_of_chks l _ h⟩
    · rw [if_neg c3] at h; simp at h
theorem fits_of_chks : ∀ (l : List Ex) (left : Int), (chks l left).1 = 0 → Ex.allFit l
  | [], _, _ => trivial
  | x :: l, left, h => by
    unfold chks at h
    by_cases c : (chk x left).1 ≠ 0
    · rw [if_pos c] at h; exact absurd h c
    · rw [if_neg c] at h
      exact ⟨fits_of_chk x left (by simpa using c), fits_of_chks l _ h⟩
end

set_option maxRecDepth 100000 in
set_option maxHeartbeats 2000000 in
theorem sortE_any (hv : Said.ValidString) (x : Ex) (names : List ByteArray) (sorts : List Int) (hN : names.length ≤ 140737488355328) (hM : sorts.length ≤ 140737488355328) (a na sa : Option Addr) (cap nc sc B : Nat) (w : World) (hk : KidsAt w B x.kids a) (hna : StrsAt w B names na) (hsa : IntsAt w B sorts sa)
    (hB : B ≤ w.heap.size) (ht : Tabs w) :
    Calls Tryd.prog 18 #[x.val a cap, .slice na names.length nc, .slice sa sorts.length sc] w fun e w' => e = .returned (.tuple #[.int .i64 (sortE x names sorts).1, .int .i64 (sortE x names sorts).2]) ∧ Below w.heap.size w w' := by
  have hc := fun W h1 h2 h3 => eCheck_any hv x a cap B W h1 h2 h3
  have hs : eCheck x = 0 → names.length = sorts.length → ∀ W, KidsAt W B x.kids a → StrsAt W B names na → IntsAt W B sorts sa → B ≤ W.heap.size → Calls Tryd.prog 46 #[x.val a cap, .slice na names.length nc, .slice sa sorts.length sc] W fun e w' => e = .returned (.tuple #[.int .i64 (srt names sorts x).1, .int .i64 (srt names sorts x).2]) ∧ Below W.heap.size W w' :=
    fun h1 h2 W h3 h4 h5 h6 => sort_all names sorts h2 hN x.size x (Nat.le_refl _) (fits_of_chk x 60 h1) a na sa cap nc sc B W h3 h4 h5 h6
  obtain ⟨R, hR⟩ : ∃ R, sortE x names sorts = R := ⟨_, rfl⟩
  rw [hR]
  unfold sortE at hR
  generalize eCheck x = E at hc hs hR
  generalize srt names sorts x = r at hs hR
  obtain ⟨k, nm, t, n, s, l⟩ := x
  unfold Ex.val at hc hs ⊢
  simp only at hc hs ⊢
  have HC := Lib.hid hc
  have HS := Lib.hid hs
  have HR := Lib.hid hR
  have HK := Lib.hid hk
  have HNA := Lib.hid hna
  have HSA := Lib.hid hsa
  have Ht := Lib.hid ht
  have hP : Below w.heap.size w (w.alloc (.cells #[.int .i64 k, .string nm, .int .i64 t, .int .i64 n, .string s, .slice a l.length cap] 35)) := (Below.refl _ _).alloc (Nat.le_refl _) _
  have HP := Lib.hid hP
  clear hc hs hR hk hna hsa ht hP
  by_cases hE : E = 0
  · subst hE
    by_cases hq : names.length = sorts.length
    · have e : R = r := by rw [← HR.out]; simp [hq]
      have hq1 : ((names.length : Int) != (sorts.length : Int)) = false := by simp [hq]
      have HQ := Lib.hid hq
      have HE := Lib.hid e
      clear e hq
      go_enter Tryd.func18, Tryd.ntmps18
      go_wp2_with fail
      refine (HC.out _ (KidsAt.below (HP.out.mono hB) _ _ HK.out) (by simp; omega) (Ht.out.below HP.out)).mono ?_
      rintro e w1 ⟨rfl, hb1⟩
      have hB1 : Below w.heap.size w w1 := HP.out.trans (hb1.mono HP.out.size)
      obtain ⟨hc1, hf1⟩ := bcell hb1
      have hz1 : w.heap.size < w1.heap.size := (by have := hb1.size; simp at this; omega)
      go_wp2_with fail
      refine (HS.out (by first | rfl | trivial) HQ.out _ (KidsAt.below (hB1.mono hB) _ _ HK.out) (StrsAt.below (hB1.mono hB) HNA.out) (IntsAt.below (hB1.mono hB) HSA.out) (by omega)).mono ?_
      rintro e w2 ⟨rfl, hb2⟩
      go_wp2_with fail
      go_ret2
      exact ⟨ret2_int (show r.1 = R.1 by rw [HE.out]) (show r.2 = R.2 by rw [HE.out]), hB1.trans (hb2.mono (by omega))⟩
    · have e : R = (0, 1) := by rw [← HR.out]; simp [hq]
      have hq1 : ((names.length : Int) != (sorts.length : Int)) = true := by simp; omega
      have HE := Lib.hid e
      clear e hq
      go_enter Tryd.func18, Tryd.ntmps18
      go_wp2_with fail
      refine (HC.out _ (KidsAt.below (HP.out.mono hB) _ _ HK.out) (by simp; omega) (Ht.out.below HP.out)).mono ?_
      rintro e w1 ⟨rfl, hb1⟩
      have hB1 : Below w.heap.size w w1 := HP.out.trans (hb1.mono HP.out.size)
      obtain ⟨hc1, hf1⟩ := bcell hb1
      have hz1 : w.heap.size < w1.heap.size := (by have := hb1.size; simp at this; omega)
      go_wp2_with fail
      go_ret2
      exact ⟨ret2_int (show (0 : Int) = R.1 by rw [HE.out]) (show (1 : Int) = R.2 by rw [HE.out]), hB1⟩
  · have e : R = (0, E) := by rw [← HR.out]; simp [hE]
    have hE1 : (E != 0) = true := by simpa using hE
    have HE := Lib.hid e
    clear e hE
    go_enter Tryd.func18, Tryd.ntmps18
    go_wp2_with fail
    refine (HC.out _ (KidsAt.below (HP.out.mono hB) _ _ HK.out) (by simp; omega) (Ht.out.below HP.out)).mono ?_
    rintro e w1 ⟨rfl, hb1⟩
    have hB1 : Below w.heap.size w w1 := HP.out.trans (hb1.mono HP.out.size)
    obtain ⟨hc1, hf1⟩ := bcell hb1
    have hz1 : w.heap.size < w1.heap.size := (by have := hb1.size; simp at this; omega)
    go_wp2_with fail
    go_ret2
    exact ⟨ret2_int (show (0 : Int) = R.1 by rw [HE.out]) (show E = R.2 by rw [HE.out]), hB1⟩
end Go.Proofs.YtiobdkibbhpojaaDoor
