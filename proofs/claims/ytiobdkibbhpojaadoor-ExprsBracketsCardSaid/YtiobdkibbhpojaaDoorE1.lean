/- Expressions as plain data, how they lie in memory, and what Check makes of them. -/
import Derived.Test.YtiobdkibbhpojaaDoorE3
import Derived.Test.YtiobdkibbhpojaaDoorL1
set_option linter.unusedVariables false
set_option linter.unusedSimpArgs false
namespace Go.Proofs.YtiobdkibbhpojaaDoor
open Go.RowKit

/-- An api.Expr: its kind, its name, its value's three parts, its kids. -/
inductive Ex where
  | mk (k : Int) (nm : ByteArray) (t n : Int) (s : ByteArray) (kids : List Ex)
def Ex.kids : Ex → List Ex | .mk _ _ _ _ _ l => l
mutual
def Ex.size : Ex → Nat | .mk _ _ _ _ _ l => Ex.sizes l + 1
def Ex.sizes : List Ex → Nat | [] => 0 | x :: l => Ex.size x + Ex.sizes l
end
theorem Ex.size_pos (x : Ex) : 1 ≤ x.size := by cases x; simp [Ex.size]
theorem Ex.size_mem : ∀ {l : List Ex} {x : Ex}, x ∈ l → x.size ≤ Ex.sizes l
  | y :: l, x, h => by
    rcases List.mem_cons.1 h with rfl | h
    · simp [Ex.sizes]
    · have := Ex.size_mem h
      simp [Ex.sizes]; omega

/-- an expression by value, its kids' slice given. -/
def Ex.val : Ex → Option Addr → Nat → Value
  | .mk k nm t n s l, a, cap => .agg #[.int .i64 k, .string nm, .int .i64 t, .int .i64 n, .string s, .slice a l.length cap]

mutual
/-- The six cells of an expression, and its kids: all of it below block B. -/
def ExAt (w : World) (B : Nat) : Ex → Nat → Nat → Prop
  | .mk k nm t n s l, b, o => b < B ∧ w.cell? ⟨b, o, none⟩ = some (.int .i64 k) ∧ w.cell? ⟨b, o + 1, none⟩ = some (.string nm) ∧ w.cell? ⟨b, o + 2, none⟩ = some (.int .i64 t) ∧
    w.cell? ⟨b, o + 3, none⟩ = some (.int .i64 n) ∧ w.cell? ⟨b, o + 4, none⟩ = some (.string s) ∧ ∃ a cap, w.cell? ⟨b, o + 5, none⟩ = some (.slice a l.length cap) ∧ KidsAt w B l a
def KidsAt (w : World) (B : Nat) : List Ex → Option Addr → Prop
  | [], _ => True
  | x :: l, a => ∃ b o, a = some ⟨b, o, none⟩ ∧ ExAt w B x b o ∧ KidsAt w B l (some ⟨b, o + 6, none⟩)
end

theorem keepU {B : Nat} {w w' : World} (hb : Below B w w') {b o : Nat} {v : Value} (hlt : b < B) (h : w.cell? ⟨b, o, none⟩ = some v) : w'.cell? ⟨b, o, none⟩ = some v := by
  rw [hb.cell (p := ⟨b, o, none⟩) hlt]; exact h

mutual
theorem ExAt.below {B : Nat} {w w' : World} (hb : Below B w w') : ∀ (x : Ex) (b o : Nat), ExAt w B x b o → ExAt w' B x b o
  | .mk k nm t n s l, b, o, h => by
    obtain ⟨hl, h0, h1, h2, h3, h4, a, cap, h5, hk⟩ := h
    exact ⟨hl, keepU hb hl h0, keepU hb hl h1, keepU hb hl h2, keepU hb hl h3, keepU hb hl h4, a, cap, keepU hb hl h5, KidsAt.below hb l a hk⟩
theorem KidsAt.below {B : Nat} {w w' : World} (hb : Below B w w') : ∀ (l : List Ex) (a : Option Addr), KidsAt w B l a → KidsAt w' B l a
  | [], _, _ => trivial
  | x :: l, a, h => by
    obtain ⟨b, o, e, hx, hl⟩ := h
    exact ⟨b, o, e, ExAt.below hb x b o hx, KidsAt.below hb l _ hl⟩
end
mutual
theorem ExAt.mono {B B' : Nat} {w : World} (hB : B ≤ B') : ∀ (x : Ex) (b o : Nat), ExAt w B x b o → ExAt w B' x b o
  | .mk k nm t n s l, b, o, h => by
    obtain ⟨hl, h0, h1, h2, h3, h4, a, cap, h5, hk⟩ := h
    exact ⟨by omega, h0, h1, h2, h3, h4, a, cap, h5, KidsAt.mono hB l a hk⟩
theorem KidsAt.mono {B B' : Nat} {w : World} (hB : B ≤ B') : ∀ (l : List Ex) (a : Option Addr), KidsAt w B l a → KidsAt w B' l a
  | [], _, _ => trivial
  | x :: l, a, h => by
    obtain ⟨b, o, e, hx, hl⟩ := h
    exact ⟨b, o, e, ExAt.mono hB x b o hx, KidsAt.mono hB l _ hl⟩
end

theorem KidsAt.get {w : World} {B : Nat} : ∀ {l : List Ex} {b o i : Nat} {x : Ex}, KidsAt w B l (some ⟨b, o, none⟩) → l[i]? = some x → ExAt w B x b (o + i * 6)
  | [], _, _, _, _, _, h => by simp at h
  | y :: l, b, o, 0, x, h, hi => by
    obtain ⟨b', o', e, hx, hl⟩ := h
    simp at hi e
    obtain ⟨rfl, rfl⟩ := e
    subst hi
    simpa using hx
  | y :: l, b, o, i + 1, x, h, hi => by
    obtain ⟨b', o', e, hx, hl⟩ := h
    simp at hi e
    obtain ⟨rfl, rfl⟩ := e
    have := KidsAt.get hl hi
    rw [show o + (i + 1) * 6 = o + 6 + i * 6 by omega]
    exact this
theorem KidsAt.some {w : World} {B : Nat} {l : List Ex} {a : Option Addr} (h : KidsAt w B l a) (hne : l ≠ []) : ∃ b o, a = Option.some ⟨b, o, none⟩ := by
  cases l with
  | nil => exact absurd rfl hne
  | cons x l => obtain ⟨b, o, e, _⟩ := h; exact ⟨b, o, e⟩

/-- Is a value of zeros? -/
def bareB (t n : Int) (s : ByteArray) : Bool := t == 0 && n == 0 && s.toList == []
theorem bare_run (t n : Int) (s : ByteArray) (w : World) : (binOp .eql 23 (vv t n s) (vv 0 0 ⟨#[]⟩)).run Tryd.prog w = .ok (.bool (bareB t n s)) w := by
  rw [eq_val]
  have : (⟨#[]⟩ : ByteArray).toList = [] := by decide +kernel
  rw [this]
  rfl

def opB (nm : ByteArray) (m : Nat) : Bool := (singleL nm.toList && m == 1) || (decide (0 < levelL nm.toList) && m == 2)
mutual
/-- exprs.check: the error, and how many parts are left. -/
def chk : Ex → Int → Int × Int
  | .mk k nm t n s l, left =>
    if left - 1 < 0 then (2, left - 1)
    else if k = 1 ∧ nm.toList = [] ∧ l.length = 0 then (vcheck t n s, left - 1)
    else if k = 2 ∧ bareB t n s = true ∧ l.length = 0 ∧ isNameB nm = true then (0, left - 1)
    else if k = 3 ∧ bareB t n s = true ∧ opB nm l.length = true then chks l (left - 1)
    else (1, left - 1)
def chks : List Ex → Int → Int × Int
  | [], left => (0, left)
  | x :: l, left => if (chk x left).1 ≠ 0 then chk x left else chks l (chk x left).2
end
/-- exprs.Check. -/
def eCheck (x : Ex) : Int := (chk x 60).1

mutual
theorem chk_left : ∀ (x : Ex) (left : Int), 0 ≤ left → left ≤ 60 → -1 ≤ (chk x left).2 ∧ (chk x left).2 < left ∧ ((chk x left).1 = 0 → 0 ≤ (chk x left).2)
  | .mk k nm t n s l, left, h0, h1 => by
    unfold chk
    by_cases c0 : left - 1 < 0
    · simp only [c0, if_true]; omega
    · have := chks_left l (left - 1) (by omega) (by omega)
      simp only [c0, if_false]
      (repeat' split) <;> first | (simp only; omega) | omega
theorem chks_left : ∀ (l : List Ex) (left : Int), 0 ≤ left → left ≤ 60 → -1 ≤ (chks l left).2 ∧ (chks l left).2 ≤ left ∧ ((chks l left).1 = 0 → 0 ≤ (chks l left).2)
  | [], left, h0, h1 => by simp only [chks]; omega
  | x :: l, left, h0, h1 => by
    have a := chk_left x left h0 h1
    unfold chks
    split
    · omega
    · rename_i hc
      have hc' : (chk x left).1 = 0 := by omega
      have b := chks_left l (chk x left).2 (a.2.2 hc') (by omega)
      omega
end
end Go.Proofs.YtiobdkibbhpojaaDoor
