/- (*strings.Builder).Grow, strings.Repeat at this program: turned from the shelf's worked proofs. Conditions: the copies take at most 2 to the 47 bytes. -/
import Derived.Test.YtiobdkibbhpojaaDoorBld
import Derived.Test.YtiobdkibbhpojaaDoorShelf3
import Derived.Shelf.Strings.Builder2
import Derived.Shelf.Strings.Repeat
set_option linter.unusedVariables false
set_option linter.unusedSimpArgs false
namespace Go.Proofs
open Go.Shelf Go.RowKit Go.Lib

set_option maxHeartbeats 2000000 in
set_option maxRecDepth 100000 in
theorem Tryd.bits_Mul64 (x y : Nat) (hx : x < 18446744073709551616) (hy : y < 18446744073709551616) (w : World) :
    Calls Tryd.prog 96 #[.int .u64 x, .int .u64 y] w fun e w' => e = .returned (.tuple #[.int .u64 ((x * y / 18446744073709551616 : Nat) : Int), .int .u64 ((x * y % 18446744073709551616 : Nat) : Int)]) ∧ w' = w := by
  obtain ⟨bd, bt, bw, hhi⟩ := Lib.mul64_hi x y hx hy
  have ba := Lib.half_mul_le (a := x / 4294967296) (b := y / 4294967296) (by omega) (by omega)
  have bb := Lib.half_mul_le (a := x / 4294967296) (b := y % 4294967296) (by omega) (by omega)
  have bc := Lib.half_mul_le (a := x % 4294967296) (b := y / 4294967296) (by omega) (by omega)
  have ba' : x / 4294967296 * (y / 4294967296) < 18446744073709551616 := by omega
  have bb' : x / 4294967296 * (y % 4294967296) < 18446744073709551616 := by omega
  have bc' : x % 4294967296 * (y / 4294967296) < 18446744073709551616 := by omega
  have bh1 : x / 4294967296 * (y / 4294967296) + (x / 4294967296 * (y % 4294967296) + x % 4294967296 * (y % 4294967296) / 4294967296) / 4294967296 < 18446744073709551616 := by omega
  have bh : x / 4294967296 * (y / 4294967296) + (x / 4294967296 * (y % 4294967296) + x % 4294967296 * (y % 4294967296) / 4294967296) / 4294967296 + ((x / 4294967296 * (y % 4294967296) + x % 4294967296 * (y % 4294967296) / 4294967296) % 4294967296 + x % 4294967296 * (y / 4294967296)) / 4294967296 < 18446744073709551616 := by omega
  have t46 := Tryd.underlying104; have a46 := Tryd.isAgg104; have z46 := Tryd.sizeOf104; have v46 := Tryd.zeroValue104
  have t53 := Tryd.underlying150; have a53 := Tryd.isAgg150; have z53 := Tryd.sizeOf150; have v53 := Tryd.zeroValue150
  go_enter Tryd.func96, Tryd.ntmps96
  go_wp2
  -- the walk's numbers, folded from the inside out: each step of the school method is a natural number that does not wrap
  simp only [Mul64.maskN x hx, Mul64.maskN y hy, Mul64.divN, Mul64.mulN, Mul64.addN, Mul64.wrapN _ bd, Mul64.wrapN _ bb', Mul64.wrapN _ bt, Mul64.maskN _ bt, Mul64.wrapN _ bc', Mul64.wrapN _ bw, Mul64.wrapN _ ba', Mul64.wrapN _ bh1, Mul64.wrapN _ bh, Mul64.wrapM (x * y)]
  rw [hhi]
  go_ret2
  exact ⟨rfl, rfl⟩

set_option maxHeartbeats 2000000 in
set_option maxRecDepth 100000 in
theorem Tryd.bits_Mul (x y : Nat) (hx : x < 18446744073709551616) (hy : y < 18446744073709551616) (w : World) :
    Calls Tryd.prog 66 #[.int .u64 x, .int .u64 y] w fun e w' => e = .returned (.tuple #[.int .u64 ((x * y / 18446744073709551616 : Nat) : Int), .int .u64 ((x * y % 18446744073709551616 : Nat) : Int)]) ∧ w' = w := by
  have c64 := Tryd.bits_Mul64 x y hx hy w
  have t46 := Tryd.underlying104; have a46 := Tryd.isAgg104; have z46 := Tryd.sizeOf104; have v46 := Tryd.zeroValue104
  have t53 := Tryd.underlying150; have a53 := Tryd.isAgg150; have z53 := Tryd.sizeOf150; have v53 := Tryd.zeroValue150
  have e264 : ∀ args w, (callFunc 96 args).run Tryd.prog w = .ok (.enter 96 args) w := enters_of Tryd.func96 (by kernel_rfl) rfl
  go_enter Tryd.func66, Tryd.ntmps66
  go_wp2_with (go_at_fn 96; refine c64.mono ?_; rintro e w' ⟨rfl, hw⟩; rw [hw])
  go_ret2
  exact ⟨rfl, rfl⟩



set_option maxHeartbeats 2000000 in
set_option maxRecDepth 100000 in
theorem Tryd.Builder_grow_fresh (B b n : Nat) (w : World) (hB : B ≤ b) (hbk : w.heap[b]? = some (.cells #[.pointer (some ⟨b, 0, none⟩), .slice none 0 0] 110 (0, 0))) (hBw : B ≤ w.heap.size) (hn : n ≤ 281474976710656) :
    Calls Tryd.prog 98 #[.pointer (some ⟨b, 0, none⟩), .int .i64 n] w fun e w' => e = .returned (.tuple #[]) ∧ (Lib.BuilderAt 110 5 B b (.pointer (some ⟨b, 0, none⟩)) [] w' ∧ Below B w w') := by
  obtain ⟨cs, hrun, hle, hmax⟩ := Lib.run_makeNoZero (P := Tryd.prog) w.drew #[3] 108 5 Tryd.underlying108 n hn
  have hw : IntKind.i64.wrap (IntKind.i64.wrap 0 + (n : Int)) = n := by
    rw [IntKind.wrap_i64, IntKind.wrap_i64]
    omega
  have hcall : (callFunc 128 #[.int .i64 (IntKind.i64.wrap (IntKind.i64.wrap 0 + (n : Int)))]).run Tryd.prog w.drew = .ok (.value (.slice (some ⟨w.drew.heap.size, 0, none⟩) n cs.size)) (w.drew.drew.drew.alloc (.cells cs 5)) := by
    rw [hw, run_callFunc_extern Tryd.func128 (by kernel_rfl) (by kernel_rfl) (by kernel_rfl) (e := Extern.BytealgMakeNoZero.makeNoZero #[3] #[108]) (by kernel_rfl), hrun]
    rfl
  have c1 : w.drew.cell? ⟨b, 1, none⟩ = some (.slice none 0 0) := by
    have : w.drew.heap[b]? = _ := hbk
    rw [Lib.cell_of_heap this]; rfl
  have c2 : (w.alloc (.cells cs 5)).cell? ⟨b, 1, none⟩ = some (.slice none 0 0) := by
    have hlt : b < w.heap.size := by
      rcases Nat.lt_or_ge b w.heap.size with h' | h'
      · exact h'
      · simp [Array.getElem?_eq_none h'] at hbk
    have : (w.alloc (.cells cs 5)).heap[b]? = _ := (Lib.alloc_old w _ b hlt).trans hbk
    rw [Lib.cell_of_heap this]; rfl
  have f2 : (w.alloc (.cells cs 5)).frozen? ⟨b, 1, none⟩ = false := by
    have hlt : b < w.heap.size := by
      rcases Nat.lt_or_ge b w.heap.size with h' | h'
      · exact h'
      · simp [Array.getElem?_eq_none h'] at hbk
    exact Lib.frozen_of_heap ((Lib.alloc_old w _ b hlt).trans hbk) 1
  have hcopy : ∀ W : World, (Builtin.copy_ #[108, 108] 3 #[.slice (some ⟨w.heap.size, 0, none⟩) 0 cs.size, .slice none 0 0]).run Tryd.prog W = .ok (goInt 0) W :=
    fun W => run_copy_none W 108 108 3 5 _ _ 0 cs.size 0 0 Tryd.underlying108 Tryd.Builder_Extra_169.sizeByte rfl
  clear hw
  have mixed := Tryd.lays169.mixed
  have t72 := Tryd.underlying110; have a72 := Tryd.isAgg110; have z72 := Tryd.sizeOf110; have v72 := Tryd.zeroValue110; have u72 := run_underlying Tryd.underlying110
  have t70 := Tryd.underlying107; have a70 := Tryd.isAgg107; have z70 := Tryd.sizeOf107; have v70 := Tryd.zeroValue107; have u70 := run_underlying Tryd.underlying107
  have t37 := Tryd.underlying108; have a37 := Tryd.isAgg108; have z37 := Tryd.sizeOf108; have v37 := Tryd.zeroValue108; have u37 := run_underlying Tryd.underlying108
  have t3 := Tryd.underlying3; have a3 := Tryd.isAgg3; have z3 := Tryd.sizeOf3; have v3 := Tryd.zeroValue3; have u3 := run_underlying Tryd.underlying3
  have t5 := Tryd.underlying5; have a5 := Tryd.isAgg5; have z5 := Tryd.sizeOf5; have v5 := Tryd.zeroValue5; have u5 := run_underlying Tryd.underlying5
  go_enter Tryd.func98, Tryd.ntmps98
  go_wp2
  have hfin := Lib.grown_fresh (T := 110) (e := 5) (cs := cs) hB hbk hBw (hmax (by unfold maxLen; omega)) Tryd.Builder_Extra_169.neB5
  go_region_o
  all_goals (go_wp2; go_end0; exact ⟨rfl, hfin⟩)

set_option maxHeartbeats 2000000 in
set_option maxRecDepth 100000 in
theorem Tryd.Builder_Grow_fresh (B b n : Nat) (w : World) (hB : B ≤ b) (hbk : w.heap[b]? = some (.cells #[.pointer none, .slice none 0 0] 110 (0, 0))) (hBw : B ≤ w.heap.size) (hn : n ≤ 281474976710656) :
    Calls Tryd.prog 67 #[.pointer (some ⟨b, 0, none⟩), .int .i64 n] w fun e w' => e = .returned (.tuple #[]) ∧ (Lib.BuilderAt 110 5 B b (.pointer (some ⟨b, 0, none⟩)) [] w' ∧ Below B w w') := by
  have hbk1 : (w.setCell ⟨b, 0, none⟩ (.pointer (some ⟨b, 0, none⟩))).heap[b]? = some (.cells #[.pointer (some ⟨b, 0, none⟩), .slice none 0 0] 110 (0, 0)) := by
    simp [World.setCell, Array.getElem?_modify, hbk]
  have c1 : (w.setCell ⟨b, 0, none⟩ (.pointer (some ⟨b, 0, none⟩))).cell? ⟨b, 1, none⟩ = some (.slice none 0 0) := by rw [Lib.cell_of_heap hbk1]; rfl
  have hb1 : Below B w (w.setCell ⟨b, 0, none⟩ (.pointer (some ⟨b, 0, none⟩))) := (Below.refl B w).setCell (p := ⟨b, 0, none⟩) hB _
  have mixed := Tryd.lays169.mixed
  have t72 := Tryd.underlying110; have a72 := Tryd.isAgg110; have z72 := Tryd.sizeOf110; have v72 := Tryd.zeroValue110; have u72 := run_underlying Tryd.underlying110
  have t70 := Tryd.underlying107; have a70 := Tryd.isAgg107; have z70 := Tryd.sizeOf107; have v70 := Tryd.zeroValue107; have u70 := run_underlying Tryd.underlying107
  have t37 := Tryd.underlying108; have a37 := Tryd.isAgg108; have z37 := Tryd.sizeOf108; have v37 := Tryd.zeroValue108; have u37 := run_underlying Tryd.underlying108
  have t3 := Tryd.underlying3; have a3 := Tryd.isAgg3; have z3 := Tryd.sizeOf3; have v3 := Tryd.zeroValue3; have u3 := run_underlying Tryd.underlying3
  have t9 := Tryd.underlying9; have a9 := Tryd.isAgg9; have z9 := Tryd.sizeOf9; have v9 := Tryd.zeroValue9; have u9 := run_underlying Tryd.underlying9
  have t4 := Tryd.underlying4; have a4 := Tryd.isAgg4; have z4 := Tryd.sizeOf4; have v4 := Tryd.zeroValue4; have u4 := run_underlying Tryd.underlying4
  have t164 := Tryd.underlying178; have a164 := Tryd.isAgg178; have z164 := Tryd.sizeOf178; have v164 := Tryd.zeroValue178; have u164 := run_underlying Tryd.underlying178
  have t5 := Tryd.underlying5; have a5 := Tryd.isAgg5; have z5 := Tryd.sizeOf5; have v5 := Tryd.zeroValue5; have u5 := run_underlying Tryd.underlying5
  have e240 : ∀ args w, (callFunc 97 args).run Tryd.prog w = .ok (.enter 97 args) w := enters_of Tryd.func97 (by kernel_rfl) rfl
  have e241 : ∀ args w, (callFunc 98 args).run Tryd.prog w = .ok (.enter 98 args) w := enters_of Tryd.func98 (by kernel_rfl) rfl
  go_enter Tryd.func67, Tryd.ntmps67
  have hU : Lib.BuilderAt 110 5 B b (.pointer (some ⟨b, 0, none⟩)) [] (w.setCell ⟨b, 0, none⟩ (.pointer (some ⟨b, 0, none⟩))) := ⟨hB, .slice none 0 0, hbk1, World.ownsRow_nil _ _ _ _, by simp [Value.ownBlock]⟩
  have c1' : (w.setCell ⟨b, 0, none⟩ (.pointer (some ⟨b, 0, none⟩))).drew.cell? ⟨b, 1, none⟩ = some (.slice none 0 0) := c1
  go_wp2_with (go_at_fn 97; refine (Tryd.Builder_copyCheck_fresh b w (by rw [Lib.cell_of_heap hbk]; rfl) (by simp [World.shape?, hbk]) (Lib.frozen_of_heap hbk 0)).mono ?_; rintro e w' ⟨rfl, rfl⟩)
  go_region_o
  all_goals go_wp2_with (go_at_fn 98; refine (Tryd.Builder_grow_fresh B b n (w.setCell ⟨b, 0, none⟩ (.pointer (some ⟨b, 0, none⟩))).drew hB hbk1 (by simpa [World.setCell, World.drew, -World.drew_eq] using hBw) hn).mono ?_; rintro e w' ⟨rfl, h1, h2⟩)
  all_goals first
    | (go_end0; exact ⟨rfl, h1, hb1.drew.trans h2⟩)
    | (go_end0; exact ⟨rfl, hU.drew, hb1.drew⟩)


set_option maxHeartbeats 2000000 in
set_option maxRecDepth 100000 in
theorem Tryd.strings_Repeat_main (s : ByteArray) (c : Nat) (w : World) (hc2 : 2 ≤ c) (hc : c ≤ 9223372036854775807) (hlen : s.size * c ≤ 140737488355328) (h0 : 0 < s.size) :
    Calls Tryd.prog 36 #[.string s, .int .i64 c] w fun e w' => e = .returned (.string ⟨(Lib.repeatL s.data.toList c).toArray⟩) ∧ Below w.heap.size w w' := by
  have hsz : s.size ≤ 140737488355328 := Nat.le_trans (Nat.le_mul_of_pos_right _ (by omega)) hlen
  have hMul := Tryd.bits_Mul s.size c (by omega) (by omega) w
  rw [Nat.div_eq_of_lt (by omega : s.size * c < 18446744073709551616), Nat.mod_eq_of_lt (by omega : s.size * c < 18446744073709551616)] at hMul
  obtain ⟨n, hn⟩ : ∃ n, s.size * c = n := ⟨_, rfl⟩
  rw [hn] at hMul hlen
  have HN : Aside (s.size * c = n) := hn
  clear hn
  have hq8 : wrap64 (8192 / (s.size : Int) * (s.size : Int)) = ((8192 / s.size * s.size : Nat) : Int) := by
    have e : (8192 : Int) / (s.size : Int) * (s.size : Int) = ((8192 / s.size * s.size : Nat) : Int) := by
      rw [Int.natCast_mul, Int.natCast_ediv]
      rfl
    have hle : 8192 / s.size * s.size ≤ 8192 := Nat.div_mul_le_self 8192 s.size
    rw [e]
    unfold wrap64
    omega
  have t0 := Tryd.underlying0; have a0 := Tryd.isAgg0; have z0 := Tryd.sizeOf0; have v0 := Tryd.zeroValue0
  have t3 := Tryd.underlying3; have a3 := Tryd.isAgg3; have z3 := Tryd.sizeOf3; have v3 := Tryd.zeroValue3
  have t4 := Tryd.underlying4; have a4 := Tryd.isAgg4; have z4 := Tryd.sizeOf4; have v4 := Tryd.zeroValue4
  have t5 := Tryd.underlying5; have a5 := Tryd.isAgg5; have z5 := Tryd.sizeOf5; have v5 := Tryd.zeroValue5
  have t9 := Tryd.underlying9; have a9 := Tryd.isAgg9; have z9 := Tryd.sizeOf9; have v9 := Tryd.zeroValue9
  have t20 := Tryd.underlying20; have a20 := Tryd.isAgg20; have z20 := Tryd.sizeOf20; have v20 := Tryd.zeroValue20
  have t37 := Tryd.underlying108; have a37 := Tryd.isAgg108; have z37 := Tryd.sizeOf108; have v37 := Tryd.zeroValue108
  have t46 := Tryd.underlying104; have a46 := Tryd.isAgg104; have z46 := Tryd.sizeOf104; have v46 := Tryd.zeroValue104
  have t51 := Tryd.underlying147; have a51 := Tryd.isAgg147; have z51 := Tryd.sizeOf147; have v51 := Tryd.zeroValue147
  have t53 := Tryd.underlying150; have a53 := Tryd.isAgg150; have z53 := Tryd.sizeOf150; have v53 := Tryd.zeroValue150
  have t70 := Tryd.underlying107; have a70 := Tryd.isAgg107; have z70 := Tryd.sizeOf107; have v70 := Tryd.zeroValue107
  have t72 := Tryd.underlying110; have a72 := Tryd.isAgg110; have z72 := Tryd.sizeOf110; have v72 := Tryd.zeroValue110
  have t75 := Tryd.underlying93; have a75 := Tryd.isAgg93; have z75 := Tryd.sizeOf93; have v75 := Tryd.zeroValue93
  have t76 := Tryd.underlying112; have a76 := Tryd.isAgg112; have z76 := Tryd.sizeOf112; have v76 := Tryd.zeroValue112
  have e99 : ∀ args w, (callFunc 55 args).run Tryd.prog w = .ok (.enter 55 args) w := enters_of Tryd.func55 (by kernel_rfl) rfl
  have e165 : ∀ args w, (callFunc 67 args).run Tryd.prog w = .ok (.enter 67 args) w := enters_of Tryd.func67 (by kernel_rfl) rfl
  have e166 : ∀ args w, (callFunc 68 args).run Tryd.prog w = .ok (.enter 68 args) w := enters_of Tryd.func68 (by kernel_rfl) rfl
  have e169 : ∀ args w, (callFunc 70 args).run Tryd.prog w = .ok (.enter 70 args) w := enters_of Tryd.func70 (by kernel_rfl) rfl
  have e170 : ∀ args w, (callFunc 69 args).run Tryd.prog w = .ok (.enter 69 args) w := enters_of Tryd.func69 (by kernel_rfl) rfl
  have e212 : ∀ args w, (callFunc 66 args).run Tryd.prog w = .ok (.enter 66 args) w := enters_of Tryd.func66 (by kernel_rfl) rfl
  go_enter Tryd.func36, Tryd.ntmps36
  go_upto_block 1 with (go_at_fn 66; go_fit hMul; rintro e w' ⟨rfl, hw⟩; rw [hw])
  clear hMul
  -- ████ THE SHORT CUT OVER FIVE CONSTANT STRINGS: its ways that hit return; all others meet
  go_cut [] (fun wx => w = wx)
  case first =>
    go_upto_if 43 with fail
    -- 'switch s[0] { case ' ', '-', '0', '=', '\t':': WHICH BYTE IT IS DOES NOT MATTER: what the inner cases ask is enough
    go_cut [43] (fun s43 wx => w = wx ∧ ∃ B : Bool, s43 = .bool B)
    case first =>
      go_wp2
      all_goals (go_meet; exact ⟨rfl, _, rfl⟩)
    case rest =>
      obtain ⟨rfl, B, rfl⟩ := hcut
      cases B
      · go_wp2
        go_meet
        rfl
      · go_wp2_with (go_at_fn 55; refine (Tryd.strings_HasPrefix _ _ _).mono ?_; rintro e w' ⟨rfl, hw⟩; rw [hw])
        all_goals (first
          | (go_meet; rfl)
          | (go_ret; first
              | exact ⟨by rw [Lib.fast_ok _ 32 128 (by rfl) s c n HN.out (by omega) (by assumption)] <;> rfl, Below.refl _ _⟩
              | exact ⟨by rw [Lib.fast_ok _ 45 128 (by rfl) s c n HN.out (by omega) (by assumption)] <;> rfl, Below.refl _ _⟩
              | exact ⟨by rw [Lib.fast_ok _ 48 64 (by rfl) s c n HN.out (by omega) (by assumption)] <;> rfl, Below.refl _ _⟩
              | exact ⟨by rw [Lib.fast_ok _ 61 128 (by rfl) s c n HN.out (by omega) (by assumption)] <;> rfl, Below.refl _ _⟩
              | exact ⟨by rw [Lib.fast_ok _ 9 64 (by rfl) s c n HN.out (by omega) (by assumption)] <;> rfl, Below.refl _ _⟩))
  case rest =>
    obtain rfl := hcut
    go_upto_if 96 with fail
    -- ████ chunkMax: three ways: THEY MEET: it is a whole number of copies long, at least one
    go_cut [8] (fun s8 wx => w = wx ∧ ∃ m : Nat, 1 ≤ m ∧ s8 = .int .i64 ((m * s.size : Nat) : Int))
    case first =>
      go_wp2
      · go_meet
        exact ⟨rfl, 1, Nat.le_refl _, by rw [Nat.one_mul]⟩
      · go_meet
        refine ⟨rfl, 8192 / s.size, ?_, by rw [hq8]⟩
        rcases Nat.eq_zero_or_pos (8192 / s.size) with hz | hz
        · rename_i hne
          have e0 : (8192 : Int) / (s.size : Int) = ((8192 / s.size : Nat) : Int) := by rw [Int.natCast_ediv]; rfl
          first | rw [hq8, hz] at hne | rw [e0, hz] at hne
          simp at hne
        · exact hz
      · go_meet
        exact ⟨rfl, c, by omega, by rw [Nat.mul_comm, HN.out]⟩
    case rest =>
      obtain ⟨rfl, m, hm1, rfl⟩ := hcut
      clear hq8
      obtain ⟨CM, hCM⟩ : ∃ CM, m * s.size = CM := ⟨_, rfl⟩
      rw [hCM]
      have HCM : Aside (m * s.size = CM) := hCM
      clear hCM
      -- ████ 'var b Builder; b.Grow(n); b.WriteString(s)'
      have b0 : Below w.heap.size w (w.alloc (.cells #[.pointer none, .slice none 0 0] 110)) := (Below.refl _ w).alloc (Nat.le_refl _) _
      have cG := Tryd.Builder_Grow_fresh w.heap.size w.heap.size n (w.alloc (.cells #[.pointer none, .slice none 0 0] 110)) (Nat.le_refl _) (heap_alloc_new w _) b0.size (by omega)
      go_wp2_with (go_at_fn 67; go_fit cG; rintro e W1 ⟨rfl, h1, b1⟩)
      clear cG
      have cW := Tryd.Builder_WriteString_k w.heap.size w.heap.size [] s W1 (Lib.IsBuilderF.of (Or.inr h1)) (by simp; omega) (Nat.le_trans b0.size b1.size)
      go_wp2_with (go_at_fn 68; go_fit cW; rintro e W2 ⟨rfl, h2, b2, -⟩)
      clear cW h1
      have h2' : Lib.IsBuilderF 110 5 w.heap.size w.heap.size (Lib.byteCells (Lib.repeatL s.data.toList 1)) W2 := by
        rw [List.nil_append, Lib.strCells_eq] at h2
        rw [Lib.repeatL_one]
        exact Or.inr h2
      have b02 : Below w.heap.size w W2 := b0.trans (b1.trans b2)
      clear h2 b0 b1 b2
      -- ████ 'for b.Len() < n': THE BUILDER HOLDS A WHOLE NUMBER OF COPIES
      go_loopg [] (c - 1) (fun g wx => ∃ q : Nat, 1 ≤ q ∧ q + g = c ∧ Lib.IsBuilderF 110 5 w.heap.size w.heap.size (Lib.byteCells (Lib.repeatL s.data.toList q)) wx ∧ Below w.heap.size w wx)
      case atStart => exact ⟨1, Nat.le_refl _, by omega, h2', b02⟩
      case round =>
        obtain ⟨q, hq1, hqg, hB, hbx⟩ := hrel
        obtain ⟨Q, hQ⟩ : ∃ Q, q * s.size = Q := ⟨_, rfl⟩
        have hlq : (Lib.byteCells (Lib.repeatL s.data.toList q)).length = Q := by rw [Lib.byteCells_length, Lib.repeatL_length, ← Lib.size_eq, hQ]
        have cLen := Tryd.Builder_Len_f w.heap.size w.heap.size _ wr hB
        rw [hlq] at cLen
        have hnc : c * s.size = n := by rw [Nat.mul_comm]; exact HN.out
        obtain ⟨S, hS⟩ : ∃ S : ByteArray, (⟨(Lib.repeatL s.data.toList q).toArray⟩ : ByteArray) = S := ⟨_, rfl⟩
        have hSd : S.data.toList = Lib.repeatL s.data.toList q := by rw [← hS]
        have hSz : S.size = Q := by rw [Lib.size_eq, hSd, Lib.repeatL_length, ← Lib.size_eq, hQ]
        have cStr := Tryd.Builder_String_any_k w.heap.size w.heap.size (Lib.repeatL s.data.toList q) wr hB hbx.size
        rw [hS] at cStr
        cases gk with
        | zero =>
          -- all the copies are written: 'return b.String()'
          obtain rfl : q = c := by omega
          have hQn : ¬ ((Q : Int) < (n : Int)) := by omega
          go_wp2_with (first
            | (go_at_fn 69; go_fit cLen; rintro e w' ⟨rfl, hw⟩; rw [hw])
            | (go_at_fn 70; go_fit cStr; rintro e W3 ⟨rfl, h3, b3, -⟩))
          go_ret
          exact ⟨by rw [hS] <;> rfl, hbx.trans b3⟩
        | succ g =>
          have hqc : q < c := by omega
          obtain ⟨k, hk1, hkq, hkc, hmin⟩ := Lib.chunk_ok c q m s.size hq1 hqc hm1
          rw [hnc, hQ, HCM.out] at hmin
          obtain ⟨CH, hCH⟩ : ∃ CH, k * s.size = CH := ⟨_, rfl⟩
          rw [hCH] at hmin
          have hQn : (Q : Int) < (n : Int) := by
            have h1 : (q + 1) * s.size ≤ c * s.size := Nat.mul_le_mul_right _ hqc
            rw [Nat.succ_mul, hQ, hnc] at h1
            omega
          have hCHQ : CH ≤ Q := by rw [← hCH, ← hQ]; exact Nat.mul_le_mul_right _ hkq
          have hsum : Q + CH ≤ n := by
            have h1 : (q + k) * s.size ≤ c * s.size := Nat.mul_le_mul_right _ hkc
            rw [Nat.add_mul, hQ, hCH, hnc] at h1
            exact h1
          have hmin3 : ∀ (ts : Array TypeId) (t : TypeId) (W : World), (Builtin.min_ ts t #[.int .i64 ((n : Int) - (Q : Int)), .int .i64 (Q : Int), .int .i64 (CM : Int)]).run Tryd.prog W = .ok (.int .i64 (CH : Int)) W := fun ts t W => by
            rw [run_min_int3]
            congr 2
            rw [← hmin]
            omega
          clear hmin
          go_wp2_with (first
            | (go_at_fn 69; go_fit cLen; rintro e w' ⟨rfl, hw⟩; rw [hw])
            | (go_at_fn 70; go_fit cStr; rintro e W3 ⟨rfl, h3, b3, -⟩))
          have cWr := Tryd.Builder_WriteString_k w.heap.size w.heap.size _ (S.extract 0 CH) W3 h3 (by
            rw [hlq, Lib.size_eq, Lib.extract_data, hSd]
            simp only [List.drop_zero, Nat.sub_zero, List.length_take, Lib.repeatL_length]
            omega) (Nat.le_trans hbx.size b3.size)
          go_wp2_with (go_at_fn 68; go_fit cWr; rintro e W4 ⟨rfl, h4, b4, -⟩)
          go_roundg (c - (q + k))
          case measure => omega
          case rel =>
            refine ⟨q + k, by omega, by omega, Or.inr ?_, hbx.trans (b3.trans b4)⟩
            rw [Lib.strCells_eq, ← Lib.byteCells_append, Lib.extract_data, hSd] at h4
            simp only [List.drop_zero, Nat.sub_zero] at h4
            rw [← hCH, Lib.size_eq, Lib.step_ok _ _ _ hkq] at h4
            exact h4

set_option maxHeartbeats 2000000 in
set_option maxRecDepth 100000 in
theorem Tryd.strings_Repeat_zero (s : ByteArray) (w : World) :
    Calls Tryd.prog 36 #[.string s, .int .i64 0] w fun e w' => e = .returned (.string ⟨#[]⟩) ∧ w' = w := by
  have t0 := Tryd.underlying0; have a0 := Tryd.isAgg0; have z0 := Tryd.sizeOf0; have v0 := Tryd.zeroValue0
  have t3 := Tryd.underlying3; have a3 := Tryd.isAgg3; have z3 := Tryd.sizeOf3; have v3 := Tryd.zeroValue3
  have t4 := Tryd.underlying4; have a4 := Tryd.isAgg4; have z4 := Tryd.sizeOf4; have v4 := Tryd.zeroValue4
  have t5 := Tryd.underlying5; have a5 := Tryd.isAgg5; have z5 := Tryd.sizeOf5; have v5 := Tryd.zeroValue5
  have t9 := Tryd.underlying9; have a9 := Tryd.isAgg9; have z9 := Tryd.sizeOf9; have v9 := Tryd.zeroValue9
  have t20 := Tryd.underlying20; have a20 := Tryd.isAgg20; have z20 := Tryd.sizeOf20; have v20 := Tryd.zeroValue20
  have t37 := Tryd.underlying108; have a37 := Tryd.isAgg108; have z37 := Tryd.sizeOf108; have v37 := Tryd.zeroValue108
  have t46 := Tryd.underlying104; have a46 := Tryd.isAgg104; have z46 := Tryd.sizeOf104; have v46 := Tryd.zeroValue104
  have t51 := Tryd.underlying147; have a51 := Tryd.isAgg147; have z51 := Tryd.sizeOf147; have v51 := Tryd.zeroValue147
  have t53 := Tryd.underlying150; have a53 := Tryd.isAgg150; have z53 := Tryd.sizeOf150; have v53 := Tryd.zeroValue150
  have t70 := Tryd.underlying107; have a70 := Tryd.isAgg107; have z70 := Tryd.sizeOf107; have v70 := Tryd.zeroValue107
  have t72 := Tryd.underlying110; have a72 := Tryd.isAgg110; have z72 := Tryd.sizeOf110; have v72 := Tryd.zeroValue110
  have t75 := Tryd.underlying93; have a75 := Tryd.isAgg93; have z75 := Tryd.sizeOf93; have v75 := Tryd.zeroValue93
  have t76 := Tryd.underlying112; have a76 := Tryd.isAgg112; have z76 := Tryd.sizeOf112; have v76 := Tryd.zeroValue112
  have e99 : ∀ args w, (callFunc 55 args).run Tryd.prog w = .ok (.enter 55 args) w := enters_of Tryd.func55 (by kernel_rfl) rfl
  have e165 : ∀ args w, (callFunc 67 args).run Tryd.prog w = .ok (.enter 67 args) w := enters_of Tryd.func67 (by kernel_rfl) rfl
  have e166 : ∀ args w, (callFunc 68 args).run Tryd.prog w = .ok (.enter 68 args) w := enters_of Tryd.func68 (by kernel_rfl) rfl
  have e169 : ∀ args w, (callFunc 70 args).run Tryd.prog w = .ok (.enter 70 args) w := enters_of Tryd.func70 (by kernel_rfl) rfl
  have e170 : ∀ args w, (callFunc 69 args).run Tryd.prog w = .ok (.enter 69 args) w := enters_of Tryd.func69 (by kernel_rfl) rfl
  have e212 : ∀ args w, (callFunc 66 args).run Tryd.prog w = .ok (.enter 66 args) w := enters_of Tryd.func66 (by kernel_rfl) rfl
  go_enter Tryd.func36, Tryd.ntmps36
  go_wp2
  go_ret
  exact ⟨rfl, rfl⟩

set_option maxHeartbeats 2000000 in
set_option maxRecDepth 100000 in
theorem Tryd.strings_Repeat_one (s : ByteArray) (w : World) :
    Calls Tryd.prog 36 #[.string s, .int .i64 1] w fun e w' => e = .returned (.string s) ∧ w' = w := by
  have t0 := Tryd.underlying0; have a0 := Tryd.isAgg0; have z0 := Tryd.sizeOf0; have v0 := Tryd.zeroValue0
  have t3 := Tryd.underlying3; have a3 := Tryd.isAgg3; have z3 := Tryd.sizeOf3; have v3 := Tryd.zeroValue3
  have t4 := Tryd.underlying4; have a4 := Tryd.isAgg4; have z4 := Tryd.sizeOf4; have v4 := Tryd.zeroValue4
  have t5 := Tryd.underlying5; have a5 := Tryd.isAgg5; have z5 := Tryd.sizeOf5; have v5 := Tryd.zeroValue5
  have t9 := Tryd.underlying9; have a9 := Tryd.isAgg9; have z9 := Tryd.sizeOf9; have v9 := Tryd.zeroValue9
  have t20 := Tryd.underlying20; have a20 := Tryd.isAgg20; have z20 := Tryd.sizeOf20; have v20 := Tryd.zeroValue20
  have t37 := Tryd.underlying108; have a37 := Tryd.isAgg108; have z37 := Tryd.sizeOf108; have v37 := Tryd.zeroValue108
  have t46 := Tryd.underlying104; have a46 := Tryd.isAgg104; have z46 := Tryd.sizeOf104; have v46 := Tryd.zeroValue104
  have t51 := Tryd.underlying147; have a51 := Tryd.isAgg147; have z51 := Tryd.sizeOf147; have v51 := Tryd.zeroValue147
  have t53 := Tryd.underlying150; have a53 := Tryd.isAgg150; have z53 := Tryd.sizeOf150; have v53 := Tryd.zeroValue150
  have t70 := Tryd.underlying107; have a70 := Tryd.isAgg107; have z70 := Tryd.sizeOf107; have v70 := Tryd.zeroValue107
  have t72 := Tryd.underlying110; have a72 := Tryd.isAgg110; have z72 := Tryd.sizeOf110; have v72 := Tryd.zeroValue110
  have t75 := Tryd.underlying93; have a75 := Tryd.isAgg93; have z75 := Tryd.sizeOf93; have v75 := Tryd.zeroValue93
  have t76 := Tryd.underlying112; have a76 := Tryd.isAgg112; have z76 := Tryd.sizeOf112; have v76 := Tryd.zeroValue112
  have e99 : ∀ args w, (callFunc 55 args).run Tryd.prog w = .ok (.enter 55 args) w := enters_of Tryd.func55 (by kernel_rfl) rfl
  have e165 : ∀ args w, (callFunc 67 args).run Tryd.prog w = .ok (.enter 67 args) w := enters_of Tryd.func67 (by kernel_rfl) rfl
  have e166 : ∀ args w, (callFunc 68 args).run Tryd.prog w = .ok (.enter 68 args) w := enters_of Tryd.func68 (by kernel_rfl) rfl
  have e169 : ∀ args w, (callFunc 70 args).run Tryd.prog w = .ok (.enter 70 args) w := enters_of Tryd.func70 (by kernel_rfl) rfl
  have e170 : ∀ args w, (callFunc 69 args).run Tryd.prog w = .ok (.enter 69 args) w := enters_of Tryd.func69 (by kernel_rfl) rfl
  have e212 : ∀ args w, (callFunc 66 args).run Tryd.prog w = .ok (.enter 66 args) w := enters_of Tryd.func66 (by kernel_rfl) rfl
  go_enter Tryd.func36, Tryd.ntmps36
  go_wp2
  go_ret
  exact ⟨rfl, rfl⟩


/-- A sign, a few times. -/
theorem Tryd.repeat_small (ch : UInt8) (hch : ch = 40 ∨ ch = 41) (k : Nat) (hk : k < 5) (w : World) :
    Calls Tryd.prog 36 #[.string ⟨#[ch]⟩, .int .i64 (k : Nat)] w fun e w' => e = .returned (.string ⟨(List.replicate k ch).toArray⟩) ∧ Below w.heap.size w w' := by
  have hz : (⟨#[ch]⟩ : ByteArray).size = 1 := rfl
  by_cases h0 : k = 0
  · subst h0
    refine (Tryd.strings_Repeat_zero ⟨#[ch]⟩ w).mono ?_
    rintro e w' ⟨rfl, rfl⟩
    exact ⟨rfl, Below.refl _ _⟩
  by_cases h1 : k = 1
  · subst h1
    refine (Tryd.strings_Repeat_one ⟨#[ch]⟩ w).mono ?_
    rintro e w' ⟨rfl, rfl⟩
    exact ⟨rfl, Below.refl _ _⟩
  refine (Tryd.strings_Repeat_main ⟨#[ch]⟩ k w (by omega) (by omega) (by rw [hz]; omega) (by rw [hz]; omega)).mono ?_
  rintro e w' ⟨rfl, hb⟩
  refine ⟨?_, hb⟩
  have : Lib.repeatL (⟨#[ch]⟩ : ByteArray).data.toList k = List.replicate k ch := by
    match k, hk with
    | 0, _ => rfl
    | 1, _ => rfl
    | 2, _ => rfl
    | 3, _ => rfl
    | 4, _ => rfl
  rw [this]

end Go.Proofs
