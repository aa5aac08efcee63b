/- Contracts of elder walks, as contracts of plain data. -/
import Derived.Test.YtiobdkibbhpojaaDoorE8
import Derived.Test.YtiobdkibbhpojaaDoorW5
import Derived.Test.YtiobdkibbhpojaaDoorLvo
import Derived.Test.YtiobdkibbhpojaaDoorXT
import Derived.Test.YtiobdkibbhpojaaDoorSwB
import Derived.Test.YtiobdkibbhpojaaDoorSwC
set_option linter.unusedVariables false
set_option linter.unusedSimpArgs false
namespace Go.Sw
open Go.RowKit
mutual
/-- The value of data that has no slices. -/
def D.val : D → Value
  | .v u => u
  | .agg cs => .agg (D.vals cs).toArray
  | .tup cs => .tuple (D.vals cs).toArray
  | .slc _ => undef
def D.vals : List D → List Value
  | [] => []
  | x :: l => x.val :: D.vals l
end
mutual
/-- Data without slices, each leaf of one cell. -/
def D.lean : D → Bool
  | .v u => u.oneCell'
  | .agg cs => D.leans cs
  | .tup cs => D.leans cs
  | .slc _ => false
def D.leans : List D → Bool
  | [] => true
  | x :: l => x.lean && D.leans l
end
mutual
theorem RpD.val {w : World} {M : Nat → Prop} : ∀ {x : D} {u : Value}, x.lean = true → RpD w M (.d x u) → u = x.val
  | .v _, _, _, .v _ _ => rfl
  | .agg cs, _, h, .agg hh => by rw [RpD.vals h hh]; rfl
  | .tup cs, _, h, .tup hh => by rw [RpD.vals h hh]; rfl
theorem RpD.vals {w : World} {M : Nat → Prop} : ∀ {l : List D} {us : List Value}, D.leans l = true → RpD w M (.ds l us) → us = D.vals l
  | [], _, _, .dsn => rfl
  | x :: l, _, h, .dsc hx ht => by
    simp only [D.leans, Bool.and_eq_true] at h
    rw [RpD.val h.1 hx, RpD.vals h.2 ht]; rfl
end
mutual
theorem RpD.ofVal {w : World} {M : Nat → Prop} : ∀ {x : D}, x.lean = true → RpD w M (.d x x.val)
  | .v u, h => .v u h
  | .agg cs, h => .agg (RpD.ofVals h)
  | .tup cs, h => .tup (RpD.ofVals h)
theorem RpD.ofVals {w : World} {M : Nat → Prop} : ∀ {l : List D}, D.leans l = true → RpD w M (.ds l (D.vals l))
  | [], _ => .dsn
  | x :: l, h => by
    simp only [D.leans, Bool.and_eq_true] at h
    exact .dsc (RpD.ofVal h.1) (RpD.ofVals h.2)
end
/-- A contract of plain values. -/
theorem dfn_of {P : Program} {Γ : Gl} {f : FuncId} {args : List D} {ret : D} (he : entB P f = true) (ha : D.leans args = true) (hr : ret.lean = true)
    (h : ∀ w, Γ.G w → Calls P f (D.vals args).toArray w fun e w' => e = .returned ret.val ∧ Below w.heap.size w w') : DFn P Γ f args ret := by
  refine ⟨he, fun F w us hG hN hF hu => ?_⟩
  rw [RpD.vals ha hu]
  exact (h w hG).mono fun e w' ⟨h1, h2⟩ => ⟨_, h1, h2, RpD.ofVal hr⟩
end Go.Sw
namespace Go.Proofs.YtiobdkibbhpojaaDoor
open Go.RowKit Go.Sw
abbrev iD (n : Int) : D := .v (.int .i64 n)
abbrev sD (s : ByteArray) : D := .v (.string s)
abbrev vD (v : Va) : D := .agg [iD v.t, iD v.n, sD v.s]
/-- What the program keeps for itself: the tables of UTF-8. -/
def Γ0 : Gl := ⟨2, Tabs, fun w w' h ht => ⟨fun c hc => by rw [World.cell?_of_block (w := w) (h 0 (by omega))]; exact ht.1 c hc, fun i hi => ⟨by rw [World.cell?_of_block (w := w) (h 1 (by omega))]; exact (ht.2 i hi).1, by rw [World.cell?_of_block (w := w) (h 1 (by omega))]; exact (ht.2 i hi).2⟩⟩⟩
theorem valid_said : Said.ValidString := fun s w hs ht => Tryd.utf8_ValidString s w hs ht
theorem count_said : Said.RuneCount := fun s w hs => (Tryd.utf8_RuneCountInString s w hs).mono fun e w' ⟨h, pos, hp⟩ => ⟨h, by subst hp; exact (Below.refl _ _).alloc (Nat.le_refl _) _⟩
theorem isName_fn (s : ByteArray) : DFn Tryd.prog Γ0 99 [sD s] (.v (.bool (isNameB s))) := dfn_of (by kernel_rfl) rfl rfl fun w _ => isName_any s w
theorem vcheck_fn (t n : Int) (s : ByteArray) : DFn Tryd.prog Γ0 22 [.agg [iD t, iD n, sD s]] (iD (vcheck t n s)) := dfn_of (by kernel_rfl) rfl rfl fun w h => check_any valid_said t n s w h
theorem order_fn (a b : Va) : DFn Tryd.prog Γ0 12 [vD a, vD b] (.tup [iD (ordN (vcheck a.t a.n a.s) (vcheck b.t b.n b.s) (vord a.t a.n a.s b.t b.n b.s)), iD (ordE (vcheck a.t a.n a.s) (vcheck b.t b.n b.s))]) :=
  dfn_of (by kernel_rfl) rfl rfl fun w h => order_any valid_said a.t a.n b.t b.n a.s b.s w h
abbrev bDf (b : Bd) : D := .agg [sD b.nm, iD b.t, iD b.n, sD b.s]

theorem count_fn (s : ByteArray) (hs : s.size < 9223372036854775807) : DFn Tryd.prog Γ0 43 [sD s] (iD (Lib.runeCount s)) := dfn_of (by kernel_rfl) rfl rfl fun w h => count_said s w hs
/-- An environment, as the elder walks speak of it. -/
theorem env_at {w : World} {M : Nat → Prop} {l : List Bd} {u : Value} (h : RpD w M (.d (.slc (l.map bDf)) u)) : ∃ a c, u = .slice a l.length c ∧ EnvAt w w.heap.size l a := by
  generalize hL : l.map bDf = L at h
  cases h with
  | slc0 a c =>
    have : l = [] := by simpa using hL
    subst this
    exact ⟨a, c, rfl, .inl rfl⟩
  | @slc _ k b o c n hn _ h =>
    subst hL
    simp only [List.length_map] at hn
    subst hn
    refine ⟨_, c, rfl, ?_⟩
    rcases Nat.eq_zero_or_pos l.length with h0 | h0
    · exact .inl (List.eq_nil_of_length_eq_zero h0)
    · have hat : ∀ i d, l[i]? = some d → BdAt w d b (o + i * 4) ∧ b < w.heap.size := by
        intro i d hi
        have hi' : (l.map bDf)[i]? = some (bDf d) := by simp [hi]
        obtain ⟨h1, h2⟩ := RpD.es_get i h hi'
        have hk : k = 4 := by rw [← h2]; rfl
        subst hk
        change RpD w M (.cs [sD d.nm, iD d.t, iD d.n, sD d.s] b (o + i * 4)) at h1
        obtain ⟨u0, c0, m0, r0⟩ := RpD.cs_get 0 h1 rfl
        obtain ⟨u1, c1, m1, r1⟩ := RpD.cs_get 1 h1 rfl
        obtain ⟨u2, c2, m2, r2⟩ := RpD.cs_get 2 h1 rfl
        obtain ⟨u3, c3, m3, r3⟩ := RpD.cs_get 3 h1 rfl
        cases r0; cases r1; cases r2; cases r3
        exact ⟨⟨c0, c1, c2, c3⟩, World.block_lt_of_cell? _ _ c0⟩
      exact .inr ⟨b, o, rfl, (hat 0 l[0] (by simp [h0])).2, fun i d hi => (hat i d hi).1⟩
end Go.Proofs.YtiobdkibbhpojaaDoor
