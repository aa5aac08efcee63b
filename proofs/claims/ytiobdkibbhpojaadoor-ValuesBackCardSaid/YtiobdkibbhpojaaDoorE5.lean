/- exprs.Check returns what eCheck says, for every expression that lies in memory; nothing that was there is changed. -/
import Derived.Test.YtiobdkibbhpojaaDoorE4
set_option linter.unusedVariables false
set_option linter.unusedSimpArgs false
namespace Go.Proofs.YtiobdkibbhpojaaDoor
open Go.RowKit

theorem check_all (hv : Said.ValidString) : ∀ (N : Nat) (x : Ex), x.size ≤ N → ChkSaid x
  | 0, x, h => by have := Ex.size_pos x; omega
  | N + 1, .mk k nm t n s l, h => check_step hv k nm t n s l (fun x hx => check_all hv N x (by
      have := Ex.size_mem hx
      simp only [Ex.size] at h
      omega))

theorem Tabs.two {w : World} (h : Tabs w) : 2 ≤ w.heap.size := World.block_lt_of_cell? _ _ (h.2 0 (by omega)).1

/-- an expression by value, in a world: its kids lie below block B. -/
theorem eCheck_any (hv : Said.ValidString) (x : Ex) (a : Option Addr) (cap B : Nat) (w : World) (hk : KidsAt w B x.kids a) (hB : B ≤ w.heap.size) (ht : Tabs w) :
    Calls Tryd.prog 45 #[x.val a cap] w fun e w' => e = .returned (.int .i64 (eCheck x)) ∧ Below w.heap.size w w' := by
  have h2 := ht.two
  have hc := check_all hv x.size x (Nat.le_refl _) a cap B
  obtain ⟨k, nm, t, n, s, l⟩ := x
  unfold Ex.val at hc ⊢
  simp only at hc ⊢
  have HC := Lib.hid hc
  have Ht := Lib.hid ht
  have HK := Lib.hid hk
  clear hc ht hk
  go_enter Tryd.func45, Tryd.ntmps45
  go_wp2_with fail
  have hP : Below w.heap.size w ((w.alloc (.cells #[.int .i64 k, .string nm, .int .i64 t, .int .i64 n, .string s, .slice a l.length cap] 35)).alloc (.cells #[.int .i64 60] 3)) := ((Below.refl _ _).alloc (Nat.le_refl _) _).alloc (by simp) _
  refine (HC.out _ (w.heap.size + 1) 0 60 (KidsAt.below (hP.mono hB) l a HK.out) (by omega) (by omega) (by go_simp) (by go_simp) (by omega) (by omega) (Ht.out.below hP)).mono ?_
  rintro e w1 ⟨rfl, hb1⟩
  have hB1 : Below w.heap.size w w1 := (hP.setCell (by simp) _).trans (hb1.mono (by simp; omega))
  go_wp2_with fail
  go_ret
  exact ⟨rfl, hB1⟩
end Go.Proofs.YtiobdkibbhpojaaDoor
