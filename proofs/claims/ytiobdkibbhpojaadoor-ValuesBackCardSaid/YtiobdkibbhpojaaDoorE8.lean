/- exprs.eval at a name: the last binding of that name. -/
import Derived.RangeFuncNested
import Derived.Test.YtiobdkibbhpojaaDoorE7
set_option linter.unusedVariables false
set_option linter.unusedSimpArgs false
namespace Go.Proofs.YtiobdkibbhpojaaDoor
open Go.RowKit Go.Shelf

attribute [local go_sem] Oper.semAt_some

/-- A block of own cells. -/
def Held (W : World) (B : Nat) (t : TypeId) (vs : Array Value) : Prop := W.heap[B]? = some (.cells vs t)
theorem Held.lt {W : World} {B : Nat} {t : TypeId} {v : Array Value} (h : Held W B t v) : B < W.heap.size := (Array.getElem?_eq_some_iff.1 h).1
theorem Held.cell {W : World} {B : Nat} {t : TypeId} {v : Array Value} (h : Held W B t v) (i : Nat) {x : Value} (hx : v[i]? = some x) : W.cell? ⟨B, i, none⟩ = some x := by simp [World.cell?, show W.heap[B]? = _ from h, hx]
theorem Held.frozen {W : World} {B : Nat} {t : TypeId} {v : Array Value} (h : Held W B t v) (i : Nat) : W.frozen? ⟨B, i, none⟩ = false := by simp [World.frozen?, show W.heap[B]? = _ from h]
theorem Held.kept {W W' : World} {row : Option Nat} {B : Nat} {t : TypeId} {v : Array Value} (h : Held W B t v) (hg : W.grownBy W' row) (hne : some B ≠ row) : Held W' B t v := (hg.block B h.lt hne).trans h
theorem Held.alloc {W : World} {B : Nat} {t : TypeId} {v : Array Value} (h : Held W B t v) (o : Obj) : Held (W.alloc o) B t v := h.kept (World.grownBy_alloc W o none) (by simp)
theorem Held.new (W : World) (t : TypeId) (v : Array Value) : Held (W.alloc (.cells v t)) W.heap.size t v := World.alloc_heap_new W _
theorem held_own {β : Type} (B : Nat) (t : TypeId) (f : β → Array Value) : Own (fun s W => Held W B t (f s)) := fun s X Y row hs hg hrow =>
  hs.kept hg (fun e' => by obtain ⟨o, ho, hc⟩ := hrow B e'.symm; rw [show X.heap[B]? = _ from hs] at ho; cases ho; cases hc)
theorem Held.set {W : World} {B : Nat} {t : TypeId} {v : Array Value} (i : Nat) (x : Value) (h : Held W B t v) : Held (W.setCell ⟨B, i, none⟩ x) B t (v.setIfInBounds i x) := by
  obtain ⟨hlt, hk⟩ := Array.getElem?_eq_some_iff.1 h
  show (W.heap.modify B _)[B]? = _
  rw [Array.getElem?_eq_getElem (by rw [Array.size_modify]; exact hlt), Array.getElem_modify_self, hk]
  rfl

theorem EnvAt.mono {B B' : Nat} {w : World} (hB : B ≤ B') {l : List Bd} {a : Option Addr} : EnvAt w B l a → EnvAt w B' l a
  | .inl h => .inl h
  | .inr ⟨b, o, e, hl, h⟩ => .inr ⟨b, o, e, by omega, h⟩
/-- The last binding of a name among the first m. -/
def lookB (l : List Bd) (nm : List UInt8) : Nat → Bd
  | 0 => Bd.zero
  | m + 1 => if (l.getD m Bd.zero).nm.toList = nm then l.getD m Bd.zero else lookB l nm m
theorem lookB_skip (l : List Bd) (nm : List UInt8) : ∀ k, k ≤ l.length → (∀ p ∈ backN l k, p.2.nm.toList ≠ nm) → lookB l nm l.length = lookB l nm (l.length - k)
  | 0, _, _ => rfl
  | k + 1, hk, h => by
    rw [backN_succ] at h
    rw [lookB_skip l nm k (by omega) (fun p hp => h p (List.mem_append_left _ hp))]
    obtain ⟨m, hm⟩ : ∃ m, l.length - k = m + 1 := ⟨l.length - k - 1, by omega⟩
    have h1 := h (l.length - 1 - k, l.getD (l.length - 1 - k) Bd.zero) (List.mem_append_right _ (by simp))
    have e1 : l.length - 1 - k = m := by omega
    have e2 : l.length - (k + 1) = m := by omega
    rw [e1] at h1
    rw [hm, e2]
    show (if _ then _ else _) = _
    rw [if_neg h1]

def Bd.cells (d : Bd) : Array Value := #[.string d.nm, .int .i64 d.t, .int .i64 d.n, .string d.s]
def Bd.vcells (d : Bd) : Array Value := #[.int .i64 d.t, .int .i64 d.n, .string d.s]
def lastOf (pre : List (Nat × Bd)) : Bd := (pre.getLast?.map (·.2)).getD Bd.zero
theorem lastOf_snoc (pre : List (Nat × Bd)) (x : Nat × Bd) : lastOf (pre ++ [x]) = x.2 := by simp [lastOf]

set_option maxRecDepth 100000 in
set_option maxHeartbeats 8000000 in
theorem eval_name_in (F : Fence) (n : Nat) (h3 : F.fn 47) (h4 : F.fn 76) (h5 : F.fn 101) (hro : F.round = none) (hn : 6 ≤ n) (nm : ByteArray) (t1 t2 : Int) (t3 : ByteArray) (ka : Option Addr) (kl kc : Nat) (ea : Option Addr) (ec : Nat) (l : List Bd) (hreach : l.length ≤ 140737488355328) (w : World) (hE : EnvAt w w.heap.size l ea)
    (hf : ∃ d ∈ l, d.nm.toList = nm.toList) :
    CallsIn F n Tryd.prog 47 #[.agg #[.int .i64 2, .string nm, .int .i64 t1, .int .i64 t2, .string t3, .slice ka kl kc], .slice ea l.length ec] w fun e W' => e = .returned (vv (lookB l nm.toList l.length).t (lookB l nm.toList l.length).n (lookB l nm.toList l.length).s) ∧ Below w.heap.size w W' := by
  have h1 : 1 ≤ n := by omega
  have HF := Lib.hid hf
  have HE := Lib.hid hE
  have HR := Lib.hid hreach
  clear hf hE hreach
  refine callsIn_of_wp_marks Tryd.func47 rfl h3 ?_ hro
  simp only [Tryd.ntmps47, List.size_toArray, List.length_cons, List.length_nil, Nat.reduceAdd, Nat.reduceSub, Array.replicate_succ, Array.replicate_zero, List.push_toArray, List.append_toArray, List.nil_append, List.cons_append]
  gi_wp2_with (gi_at_call 76; refine (backward_in F (n - 1) h4 hro _ _ _ _).mono ?_; rintro e w' ⟨rfl, rfl⟩)
  have bX := ((Held.new w 35 #[.int .i64 2, .string nm, .int .i64 t1, .int .i64 t2, .string t3, .slice ka kl kc]).alloc (.cells #[.int .i64 0, .int .i64 0, .string ⟨#[]⟩] 23)).alloc (.cells #[.slice ea l.length ec] 36)
  have bR := (Held.new (w.alloc (.cells #[.int .i64 2, .string nm, .int .i64 t1, .int .i64 t2, .string t3, .slice ka kl kc] 35)) 23 #[.int .i64 0, .int .i64 0, .string ⟨#[]⟩]).alloc (.cells #[.slice ea l.length ec] 36)
  have bA := Held.new ((w.alloc (.cells #[.int .i64 2, .string nm, .int .i64 t1, .int .i64 t2, .string t3, .slice ka kl kc] 35)).alloc (.cells #[.int .i64 0, .int .i64 0, .string ⟨#[]⟩] 23)) 36 #[.slice ea l.length ec]
  simp only [World.size_alloc] at bR bA
  have hB0 : Below w.heap.size w (((w.alloc (.cells #[.int .i64 2, .string nm, .int .i64 t1, .int .i64 t2, .string t3, .slice ka kl kc] 35)).alloc (.cells #[.int .i64 0, .int .i64 0, .string ⟨#[]⟩] 23)).alloc (.cells #[.slice ea l.length ec] 36)) := (((Below.refl _ w).alloc (Nat.le_refl _) _).alloc (by simp) _).alloc (by simp; omega) _
  have hsz : (((w.alloc (.cells #[.int .i64 2, .string nm, .int .i64 t1, .int .i64 t2, .string t3, .slice ka kl kc] 35)).alloc (.cells #[.int .i64 0, .int .i64 0, .string ⟨#[]⟩] 23)).alloc (.cells #[.slice ea l.length ec] 36)).heap.size = w.heap.size + 3 := by simp
  obtain ⟨W0, hW0⟩ : ∃ W0, ((w.alloc (.cells #[.int .i64 2, .string nm, .int .i64 t1, .int .i64 t2, .string t3, .slice ka kl kc] 35)).alloc (.cells #[.int .i64 0, .int .i64 0, .string ⟨#[]⟩] 23)).alloc (.cells #[.slice ea l.length ec] 36) = W0 := ⟨_, rfl⟩
  rw [hW0] at bX bR bA hB0 hsz ⊢
  clear hW0
  refine wpIn_rangeFunc_ownH hro h1 (gf := 101) (lb := #[.pointer (some ⟨w.heap.size + 1 + 1, 0, none⟩)]) rfl h5 (enters_of Tryd.func101 (by kernel_rfl) rfl)
    (back_stops F (n - 1) h5 hro (by omega) (w.heap.size + 1 + 1) (w.heap.size + 3) ea ec l HR.out W0 (by omega) (by omega) (by omega) (bA.cell 0 rfl) ((HE.out.below hB0).mono (by omega))) belowK_t (belowK_b (by omega)) (Below.refl _ _) (fun _ => rfl)
    (fun pre W => (((∀ p ∈ pre, p.2.nm.toList ≠ nm.toList) ∧ Held W w.heap.size 35 #[.int .i64 2, .string nm, .int .i64 t1, .int .i64 t2, .string t3, .slice ka kl kc]) ∧ Held W (w.heap.size + 1) 23 #[.int .i64 0, .int .i64 0, .string ⟨#[]⟩]) ∧ Held W (w.heap.size + 1 + 1) 36 #[.slice ea l.length ec] ∧ Below w.heap.size w W)
    (fun c pre W => ((c = .ret ∧ ∃ ini last, pre = ini ++ [last] ∧ (∀ p ∈ ini, p.2.nm.toList ≠ nm.toList) ∧ last.2.nm.toList = nm.toList) ∧ Held W (w.heap.size + 1) 23 (lastOf pre).vcells) ∧ Below w.heap.size w W)
    (OwnFrom.and (OwnFrom.and (OwnFrom.and (ownFrom_pure _ _) (Own.from (held_own _ _ _) _)) (Own.from (held_own _ _ _) _)) (OwnFrom.and (Own.from (held_own _ _ _) _) (ownFrom_below (Nat.le_refl _) (by omega))))
    (fun c => OwnFrom.and (OwnFrom.and (ownFrom_pure _ _) (Own.from (held_own _ _ (fun pre => (lastOf pre).vcells)) _)) (ownFrom_below (Nat.le_refl _) (by omega)))
    ⟨⟨⟨by simp, bX⟩, bR⟩, bA, hB0⟩
    (fun x a' W => ∃ Bx, w.heap.size + 1 < Bx ∧ Held W Bx 45 #[.string x.2.nm, .int .i64 x.2.t, .int .i64 x.2.n, .string x.2.s] ∧ a' = { tmps := #[.agg #[.int .i64 2, .string nm, .int .i64 t1, .int .i64 t2, .string t3, .slice ka kl kc], .slice ea l.length ec, .pointer (some ⟨w.heap.size, 0, none⟩), undef, .pointer (some ⟨w.heap.size + 1, 0, none⟩), undef, .pointer (some ⟨Bx, 0, none⟩), undef, undef, undef, undef, undef, undef, .pointer (some ⟨w.heap.size, 0, none⟩), .int .i64 2, .bool false, .bool false, undef, undef, .bool true, .bool true, .slice ea l.length ec, .func (.func 101) #[] #[.pointer (some ⟨w.heap.size + 1 + 1, 0, none⟩)], .int .i64 (x.1 : Int), .agg #[.string x.2.nm, .int .i64 x.2.t, .int .i64 x.2.n, .string x.2.s], undef, undef, undef, undef, undef, undef, undef, undef, undef, undef, undef, undef, undef, undef, undef, undef, undef, undef, undef, undef, undef, undef, undef, undef, undef, undef, undef, undef, undef, undef, undef, undef, undef, undef, undef, undef, undef, undef, undef, undef, undef, undef, undef, undef, undef, undef, undef, undef, undef, undef, undef, undef, undef, undef, undef, undef, undef, undef, undef, undef, undef, undef, undef, undef, undef, undef, undef, undef, undef, undef, undef, undef, undef, undef, undef, undef, undef, undef, undef, undef, undef, undef, undef, undef, undef, undef, undef, undef, undef, undef, undef, undef, undef, undef, undef, undef, undef, undef, undef, undef, undef, undef, undef, undef, undef], defers := [] })
    (fun x a' _ X Y row hs hg hr => by obtain ⟨Bx, e1, e2, e3⟩ := hs; exact ⟨Bx, e1, held_own Bx 45 (fun (_ : Unit) => #[.string x.2.nm, .int .i64 x.2.t, .int .i64 x.2.n, .string x.2.s]) () X Y row e2 hg (fun r e => (hr r e).2), e3⟩)
    ?assign ?body ?done ?stop
  case assign =>
    rintro l0 pre x W K ⟨⟨⟨hp, bX1⟩, bR1⟩, bA1, hB1⟩ hK
    dsimp only [Bd.val]
    gi_wp2
    exact hK _ _ ((KeepsOthers.alloc _ _).from _) ((Below.refl _ W).alloc (by have := bA1.lt; omega) _) ⟨⟨⟨hp, bX1.alloc _⟩, bR1.alloc _⟩, bA1.alloc _, hB1.alloc hB1.size _⟩ ⟨W.heap.size, bR1.lt, Held.new W 45 _, rfl⟩
  case body =>
    rintro l0 pre x a' W hl ⟨r, hr⟩ ⟨⟨⟨hp, bX1⟩, bR1⟩, bA1, hB1⟩ ⟨Bx, hBx, bE, rfl⟩ hlt
    have x1 := bX1.cell 1 rfl
    have e0 := bE.cell 0 rfl
    have e1 := bE.cell 1 rfl
    have e2 := bE.cell 2 rfl
    have e3 := bE.cell 3 rfl
    have r0 := bR1.cell 0 rfl
    have r1 := bR1.cell 1 rfl
    have r2 := bR1.cell 2 rfl
    have f0 := bR1.frozen 0
    have f1 := bR1.frozen 1
    have f2 := bR1.frozen 2
    by_cases hq : x.2.nm.toList = nm.toList
    · have hq1 : (x.2.nm.toList == nm.toList) = true := by simp [hq]
      have HQ := Lib.hid hq
      clear hq
      gi_wp2
      refine ⟨((KeepsOthers.setCell _ _ _).trans ((KeepsOthers.setCell _ _ _).trans (KeepsOthers.setCell _ _ _))).from _, ⟨⟨rfl, pre, x, rfl, hp, HQ.out⟩, ?_⟩, ((hB1.setCell (p := ⟨w.heap.size + 1, 0, none⟩) (by simp) _).setCell (p := ⟨w.heap.size + 1, 1, none⟩) (by simp) _).setCell (p := ⟨w.heap.size + 1, 2, none⟩) (by simp) _⟩
      rw [lastOf_snoc]
      exact ((bR1.set 0 _).set 1 _).set 2 _
    · have hq1 : (x.2.nm.toList == nm.toList) = false := by simp [hq]
      have HQ := Lib.hid hq
      clear hq
      gi_wp2
      exact ⟨KeepsFrom.refl _ _, Below.refl _ _, ⟨⟨fun p hp' => (List.mem_append.1 hp').elim (hp p) (fun e => by simp at e; subst e; exact HQ.out), bX1⟩, bR1⟩, bA1, hB1⟩
  case done =>
    rintro D ys W hD rfl ⟨⟨⟨hp, bX1⟩, bR1⟩, bA1, hB1⟩ hK
    exfalso
    obtain ⟨d, hd, hdn⟩ := HF.out
    obtain ⟨i, hi, rfl⟩ := List.getElem_of_mem hd
    refine hp (i, l[i]) ?_ hdn
    simp only [backN, List.mem_map, List.mem_range]
    exact ⟨l.length - 1 - i, by omega, by rw [show l.length - 1 - (l.length - 1 - i) = i by omega]; simp [List.getD, hi]⟩
  case stop =>
    rintro D c pre W hD ⟨k, hk, rfl⟩ ⟨⟨⟨rfl, ini, last, e1, e2, e3⟩, bR1⟩, hB1⟩ hK
    gi_wp2
    refine ⟨by simp, .inl ⟨_, _, rfl, run_takeDeferred hK, ?_⟩⟩
    have g0 := cell_kept (bR1.cell 0 rfl) (grownBy_putObj' _ D (.deferred none)) (fun r e => by cases e; exact ⟨_, hK, rfl⟩)
    have g1 := cell_kept (bR1.cell 1 rfl) (grownBy_putObj' _ D (.deferred none)) (fun r e => by cases e; exact ⟨_, hK, rfl⟩)
    have g2 := cell_kept (bR1.cell 2 rfl) (grownBy_putObj' _ D (.deferred none)) (fun r e => by cases e; exact ⟨_, hK, rfl⟩)
    obtain ⟨k', rfl⟩ : ∃ k', k = k' + 1 := by
      cases k with
      | zero => simp [backN] at e1
      | succ k' => exact ⟨k', rfl⟩
    have hlast : lookB l nm.toList l.length = lastOf (backN l (k' + 1)) := by
      rw [backN_succ] at e1 ⊢
      obtain ⟨rfl, e5⟩ := List.append_inj' e1 rfl
      rw [lastOf_snoc, lookB_skip l nm.toList k' (by omega) e2]
      obtain ⟨m, hm⟩ : ∃ m, l.length - k' = m + 1 := ⟨l.length - k' - 1, by omega⟩
      have em : l.length - 1 - k' = m := by omega
      simp only [List.cons.injEq, and_true] at e5
      rw [em] at e5 ⊢
      rw [hm]
      show (if _ then _ else _) = _
      rw [if_pos (by rw [← e5] at e3; exact e3)]
    rw [hlast]
    refine ⟨vv (lastOf (backN l (k' + 1))).t (lastOf (backN l (k' + 1))).n (lastOf (backN l (k' + 1))).s, ?_, rfl, hB1.trans (belowK_b (w := w) (Nat.le_refl _) W D _ _ (by omega) hK rfl rfl)⟩
    simp [results, Tryd.results47, go_sem, g0, g1, g2]
    exact ⟨rfl, rfl, rfl⟩

theorem eval_name (nm : ByteArray) (t1 t2 : Int) (t3 : ByteArray) (ka : Option Addr) (kl kc : Nat) (ea : Option Addr) (ec : Nat) (l : List Bd) (hreach : l.length ≤ 140737488355328) (w : World) (hE : EnvAt w w.heap.size l ea)
    (hf : ∃ d ∈ l, d.nm.toList = nm.toList) :
    Calls Tryd.prog 47 #[.agg #[.int .i64 2, .string nm, .int .i64 t1, .int .i64 t2, .string t3, .slice ka kl kc], .slice ea l.length ec] w fun e W' => e = .returned (vv (lookB l nm.toList l.length).t (lookB l nm.toList l.length).n (lookB l nm.toList l.length).s) ∧ Below w.heap.size w W' :=
  callsIn_wide.1 (eval_name_in Fence.wide 6 trivial trivial trivial rfl (Nat.le_refl _) nm t1 t2 t3 ka kl kc ea ec l hreach w hE hf)
end Go.Proofs.YtiobdkibbhpojaaDoor
