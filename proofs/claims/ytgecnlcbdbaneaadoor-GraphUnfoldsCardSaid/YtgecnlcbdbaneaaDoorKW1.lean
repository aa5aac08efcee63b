/- graph.name, types.size, types.put, types.twin, types.Unfold; a symbolic walk. -/
-- TYPESC
import Derived.Test.YtgecnlcbdbaneaaDoorKB1
import Derived.Test.YtgecnlcbdbaneaaDoorKU1
import Derived.Test.YtgecnlcbdbaneaaDoorTC
set_option linter.unusedVariables false
set_option linter.unusedSimpArgs false
namespace Go.Sw
open Go.RowKit
section
variable {P : Program} {N : Nat} {Γ : Gl} {C : Cx P N Γ} {K : Exit → Env → St → Prop} {e : Env} {s : St}
/-- A number that becomes a text. -/
theorem stop_rune {ops rest : List Oper} {dst : Option Tmp} {src dt ty : TypeId} {x : Operand} {pos : String} {af : Array Edge} {k k' : IntKind} {n : Int} (hs : P.underlying src = some (.int k')) (hd : P.underlying dt = some .string)
    (hB : regOK N (⟨dst, .convert src dt x, ty, pos, af, none⟩ :: rest) = true) (hx : opn (val e x) = .d (.v (.int k n))) (hk : ok1 true (val e x))
    (h : vcOps C ops rest (putO dst (.d (.v (.string (Utf8.encode n)))) e) s K) : Stop C ops (⟨dst, .convert src dt x, ty, pos, af, none⟩ :: rest) e s K := by
  refine vcOps_ok hB ?_
  unfold vcOps
  have hst : stepO P true ⟨dst, .convert src dt x, ty, pos, af, none⟩ e s = some (ok1 true (val e x), .d (.v (.string (Utf8.encode n))), e, s) := by
    show (cnv P src dt (opn (val e x))).map _ = _
    rw [hx, cnv.eq_3 P src dt k n k' hs hd]
    rfl
  simp only [hst]
  exact ⟨hk, h⟩
/-- The same, with steps behind it. -/
theorem stop_runeT (m : Nat) {ops rest : List Oper} {dst : Option Tmp} {src dt ty : TypeId} {x : Operand} {pos : String} {af : Array Edge} {k k' : IntKind} {n : Int} (hs : P.underlying src = some (.int k')) (hd : P.underlying dt = some .string)
    (hB : regOK N (⟨dst, .convert src dt x, ty, pos, af, none⟩ :: rest) = true) (hx : opn (val e x) = .d (.v (.int k n))) (hk : ok1 true (val e x))
    (h : vcTo C ops m rest (putO dst (.d (.v (.string (Utf8.encode n)))) e) s K) : Stop C ops (⟨dst, .convert src dt x, ty, pos, af, none⟩ :: rest) e s K := by
  refine vcTo_ok (m + 1) hB ?_
  unfold vcTo
  have hst : stepO P true ⟨dst, .convert src dt x, ty, pos, af, none⟩ e s = some (ok1 true (val e x), .d (.v (.string (Utf8.encode n))), e, s) := by
    show (cnv P src dt (opn (val e x))).map _ = _
    rw [hx, cnv.eq_3 P src dt k n k' hs hd]
    rfl
  simp only [hst]
  exact ⟨hk, h⟩
end
end Go.Sw
namespace Go.Proofs.YtgecnlcbdbaneaaDoor
open Go.RowKit Go.Sw

theorem name_one : ∀ k : Fin 200, k.val < 26 → Utf8.encode (IntKind.i32.wrap (IntKind.i64.wrap (97 + (k.val : Int)))) = nameP k.val := by decide +kernel
theorem name_two : ∀ k : Fin 200, ¬ k.val < 26 → Utf8.encode (IntKind.i32.wrap (IntKind.i64.wrap (IntKind.i64.wrap (97 + IntKind.i64.wrap ((k.val : Int).tdiv 26)) - 1))) ++ Utf8.encode (IntKind.i32.wrap (IntKind.i64.wrap (97 + (k.val : Int).tmod 26))) = nameP k.val := by decide +kernel
theorem name_len : ∀ k : Fin 200, ¬ k.val < 26 → (Utf8.encode (IntKind.i32.wrap (IntKind.i64.wrap (IntKind.i64.wrap (97 + IntKind.i64.wrap ((k.val : Int).tdiv 26)) - 1)))).size + (Utf8.encode (IntKind.i32.wrap (IntKind.i64.wrap (97 + (k.val : Int).tmod 26)))).size ≤ maxLen := by decide +kernel
set_option maxHeartbeats 4000000 in
set_option maxRecDepth 100000 in
theorem name_fn (Γ : Gl) (k : Int) (h0 : 0 ≤ k) (h1 : k < 200) : DFn Tryd.prog Γ 72 [iD k] (sD (nameP k)) := by
  have ek : ((k.toNat : Nat) : Int) = k := by omega
  have e1 := name_one ⟨k.toNat, by omega⟩
  have e2 := name_two ⟨k.toNat, by omega⟩
  have e3 := name_len ⟨k.toNat, by omega⟩
  simp only [ek] at e1 e2 e3
  refine fn_of_swp (N := 21) Tryd.func72 rfl (by decide) rfl rfl (by simp) (fun C h0 => ?_)
  simp only [argE]
  by_cases hk : k < 26
  · have e1 := e1 (by omega)
    repeat (with_reducible refine swp_seq ?_)
    (with_reducible refine swp_region ?_ (fun K' hK' => ?_)
     · rfl
     simp only [UN, LM, Nat.reduceBEq, Nat.reduceLeDiff, Int.reduceLE, Int.reduceLT, Int.reduceToNat, Nat.reduceAdd, Nat.reduceSub, Nat.reduceMul, reduceCtorEq, TAS, TBS, TCS]
     (repeat (refine And.intro ?_ ?_; focus (clear hK'; intros; simp_all; done))))
    refine hK' _ _ ?_
    clear hK' K'
    refine kseq_n ?_
    repeat (with_reducible refine swp_seq ?_)
    (with_reducible refine swp_region ?_ (fun K' hK' => ?_)
     · rfl
     simp only [UN, LM, Nat.reduceBEq, Nat.reduceLeDiff, Int.reduceLE, Int.reduceLT, Int.reduceToNat, Nat.reduceAdd, Nat.reduceSub, Nat.reduceMul, reduceCtorEq, TAS, TBS, TCS, hk]
     (repeat (refine And.intro ?_ ?_; focus (clear hK'; intros; simp_all; done))))
    refine hK' _ _ ?_
    clear hK' K'
    refine kseq_n ?_
    repeat (with_reducible refine swp_seq ?_)
    ((with_reducible refine swp_cond ?_ ?_);rfl;refine ⟨_, rfl, fun h => ?_, fun h => ?_⟩ <;> (try (exfalso; exact absurd h (by decide))))
    repeat (with_reducible refine swp_seq ?_)
    (with_reducible refine swp_regionS (fun K' hK' => ?_))
    refine vcTo_ok 3 rfl ?_
    simp only [UN, LM, Nat.reduceBEq, Nat.reduceLeDiff, Int.reduceLE, Int.reduceLT, Int.reduceToNat, Nat.reduceAdd, Nat.reduceSub, Nat.reduceMul, reduceCtorEq, TAS, TBS, TCS, vcTo]
    (repeat (refine And.intro ?_ ?_; focus (clear hK'; intros; simp_all; done)))
    refine stop_rune un21 un9 rfl rfl trivial ?_
    -- TRACE
    simp only [UN, LM, Nat.reduceBEq, Nat.reduceLeDiff, Int.reduceLE, Int.reduceLT, Int.reduceToNat, Nat.reduceAdd, Nat.reduceSub, Nat.reduceMul, reduceCtorEq, TAS, TBS, TCS, e1]
    (try (refine hK' _ _ ?_; clear hK'; clear K'))
    repeat' (first
      |(with_reducible first|refine swp_seq ?_|refine swp_block ?_|refine swp_skip ?_|refine swp_ret ?_|refine swp_exit ?_|refine swp_label ?_|refine kseq_n ?_|refine kseq_x ?_|refine kseq_r ?_|refine kblk_n ?_|refine kblk_r ?_|refine kblk_xs ?_|refine kloop_x ?_|refine kloop_r ?_)
      |((with_reducible refine kblk_xn ?_ ?_);rfl)
      |((with_reducible refine swp_regionP ?_ ?_ (fun K' hK' => ?_));rfl;rfl;simp only [UN, LM, Nat.reduceBEq, Nat.reduceLeDiff, Int.reduceLE, Int.reduceLT, Int.reduceToNat, Nat.reduceAdd, Nat.reduceSub, Nat.reduceMul, reduceCtorEq, TAS, TBS, TCS];(repeat (refine And.intro ?_ ?_; focus (clear hK'; intros; simp_all; done)));(try (refine hK' _ _ ?_; clear hK'; clear K')))
      |((with_reducible refine swp_cond ?_ ?_);rfl;refine ⟨_, rfl, fun h => ?_, fun h => ?_⟩ <;> (try (exfalso; exact absurd h (by decide)))))
    simp only [Kret, retL, retOne, oneV, UN, LM, Nat.reduceBEq, Nat.reduceLeDiff, Int.reduceLE, Int.reduceLT, Int.reduceToNat, Nat.reduceAdd, Nat.reduceSub, Nat.reduceMul, reduceCtorEq, TAS, TBS, TCS]
  · have e2 := e2 (by omega)
    have e3 := e3 (by omega)
    repeat (with_reducible refine swp_seq ?_)
    (with_reducible refine swp_region ?_ (fun K' hK' => ?_)
     · rfl
     simp only [UN, LM, Nat.reduceBEq, Nat.reduceLeDiff, Int.reduceLE, Int.reduceLT, Int.reduceToNat, Nat.reduceAdd, Nat.reduceSub, Nat.reduceMul, reduceCtorEq, TAS, TBS, TCS]
     (repeat (refine And.intro ?_ ?_; focus (clear hK'; intros; simp_all; done))))
    refine hK' _ _ ?_
    clear hK' K'
    refine kseq_n ?_
    repeat (with_reducible refine swp_seq ?_)
    (with_reducible refine swp_region ?_ (fun K' hK' => ?_)
     · rfl
     simp only [UN, LM, Nat.reduceBEq, Nat.reduceLeDiff, Int.reduceLE, Int.reduceLT, Int.reduceToNat, Nat.reduceAdd, Nat.reduceSub, Nat.reduceMul, reduceCtorEq, TAS, TBS, TCS, hk]
     (repeat (refine And.intro ?_ ?_; focus (clear hK'; intros; simp_all; done))))
    refine hK' _ _ ?_
    clear hK' K'
    refine kseq_n ?_
    repeat (with_reducible refine swp_seq ?_)
    ((with_reducible refine swp_cond ?_ ?_);rfl;refine ⟨_, rfl, fun h => ?_, fun h => ?_⟩ <;> (try (exfalso; exact absurd h (by decide))))
    refine swp_skip ?_
    refine kseq_n ?_
    repeat (with_reducible refine swp_seq ?_)
    (with_reducible refine swp_regionS (fun K' hK' => ?_))
    refine vcTo_ok 5 rfl ?_
    simp only [UN, LM, Nat.reduceBEq, Nat.reduceLeDiff, Int.reduceLE, Int.reduceLT, Int.reduceToNat, Nat.reduceAdd, Nat.reduceSub, Nat.reduceMul, reduceCtorEq, TAS, TBS, TCS, vcTo]
    (repeat (refine And.intro ?_ ?_; focus (clear hK'; intros; simp_all; done)))
    refine stop_runeT 4 un21 un9 rfl rfl trivial ?_
    simp only [UN, LM, Nat.reduceBEq, Nat.reduceLeDiff, Int.reduceLE, Int.reduceLT, Int.reduceToNat, Nat.reduceAdd, Nat.reduceSub, Nat.reduceMul, reduceCtorEq, TAS, TBS, TCS, vcTo]
    (repeat (refine And.intro ?_ ?_; focus (clear hK'; intros; simp_all; done)))
    -- TRACE
    refine stop_rune un21 un9 rfl rfl trivial ?_
    simp only [UN, LM, Nat.reduceBEq, Nat.reduceLeDiff, Int.reduceLE, Int.reduceLT, Int.reduceToNat, Nat.reduceAdd, Nat.reduceSub, Nat.reduceMul, reduceCtorEq, TAS, TBS, TCS, e3, e2]
    (try (refine hK' _ _ ?_; clear hK'; clear K'))
    repeat' (first
      |(with_reducible first|refine swp_seq ?_|refine swp_block ?_|refine swp_skip ?_|refine swp_ret ?_|refine swp_exit ?_|refine swp_label ?_|refine kseq_n ?_|refine kseq_x ?_|refine kseq_r ?_|refine kblk_n ?_|refine kblk_r ?_|refine kblk_xs ?_|refine kloop_x ?_|refine kloop_r ?_)
      |((with_reducible refine kblk_xn ?_ ?_);rfl)
      |((with_reducible refine swp_regionP ?_ ?_ (fun K' hK' => ?_));rfl;rfl;simp only [UN, LM, Nat.reduceBEq, Nat.reduceLeDiff, Int.reduceLE, Int.reduceLT, Int.reduceToNat, Nat.reduceAdd, Nat.reduceSub, Nat.reduceMul, reduceCtorEq, TAS, TBS, TCS];(repeat (refine And.intro ?_ ?_; focus (clear hK'; intros; simp_all; done)));(try (refine hK' _ _ ?_; clear hK'; clear K')))
      |((with_reducible refine swp_cond ?_ ?_);rfl;refine ⟨_, rfl, fun h => ?_, fun h => ?_⟩ <;> (try (exfalso; exact absurd h (by decide)))))
    simp only [Kret, retL, retOne, oneV, UN, LM, Nat.reduceBEq, Nat.reduceLeDiff, Int.reduceLE, Int.reduceLT, Int.reduceToNat, Nat.reduceAdd, Nat.reduceSub, Nat.reduceMul, reduceCtorEq, TAS, TBS, TCS]
theorem sizes_app2 : ∀ (l : List Tp) (j : Nat) (x : Tp), l[j]? = some x → Tp.sizes (l.take (j + 1)) = Tp.sizes (l.take j) + x.size
  | y :: l, 0, x, h => by simp at h; subst h; simp [Tp.sizes]
  | y :: l, j + 1, x, h => by
    have := sizes_app2 l j x (by simpa using h)
    simp only [List.take_succ_cons, Tp.sizes, this]
    omega
theorem sizes_take : ∀ (l : List Tp) (j : Nat), Tp.sizes (l.take j) ≤ Tp.sizes l
  | [], j => by simp [Tp.sizes]
  | y :: l, 0 => by simp [Tp.sizes]
  | y :: l, j + 1 => by
    have := sizes_take l j
    simp only [List.take_succ_cons, Tp.sizes]
    omega
set_option maxHeartbeats 8000000 in
set_option maxRecDepth 100000 in
theorem size_step (Γ : Gl) (k so : Int) (nm : ByteArray) (ls : List ByteArray) (l : List Tp) (hz : Tp.sizes l ≤ 4611686018427387904) (hl6 : l.length ≤ 60) (ih : ∀ x ∈ l, DFn Tryd.prog Γ 49 [x.d] (iD (x.size : Nat))) : DFn Tryd.prog Γ 49 [(Tp.mk k so nm ls l).d] (iD ((Tp.mk k so nm ls l).size : Nat)) := by
  have hll := Tp.ds_len l
  simp only [Tp.d, Tp.size]
  refine fn_of_swp (N := 19) Tryd.func49 rfl (by decide) rfl rfl (by simp) (fun C h0 => ?_)
  simp only [argE]
  repeat' (first
    |(with_reducible first|refine swp_seq ?_|refine swp_block ?_|refine swp_skip ?_|refine swp_ret ?_|refine swp_exit ?_|refine swp_label ?_|refine kseq_n ?_|refine kseq_x ?_|refine kseq_r ?_|refine kblk_n ?_|refine kblk_r ?_|refine kblk_xs ?_|refine kloop_x ?_|refine kloop_r ?_)
    |((with_reducible refine kblk_xn ?_ ?_);rfl)
    |((with_reducible refine swp_regionP ?_ ?_ (fun K' hK' => ?_));rfl;rfl;simp only [UN, LM, Nat.reduceBEq, Nat.reduceLeDiff, Int.reduceLE, Int.reduceLT, Int.reduceToNat, Nat.reduceAdd, Nat.reduceSub, Nat.reduceMul, reduceCtorEq, TAS, TBS, TCS, hll];(repeat (refine And.intro ?_ ?_; focus (clear hK'; intros; simp_all; done)));(try (refine hK' _ _ ?_; clear hK'; clear K')))
    |((with_reducible refine swp_cond ?_ ?_);rfl;refine ⟨_, rfl, fun h => ?_, fun h => ?_⟩ <;> (try (exfalso; exact absurd h (by decide)))))
  refine swp_loop (α := Nat) (fun j => [(3, .d (iD ((Tp.sizes (l.take j) + 1 : Nat) : Int))), (7, .d (.slc (Tp.ds l))), (8, .d (iD l.length)), (9, .d (iD j))]) (fun _ => [])
    (fun j => j ≤ l.length) (fun j => l.length - j) 0 (Nat.zero_le _) (by simp only [List.take_zero, Tp.sizes]; refine sub_of h0 ?_ ?_ ?_ <;> simp only [US, UN, LM, Nat.reduceBEq, Nat.reduceLeDiff, Int.reduceLE, Int.reduceLT, Int.reduceToNat, Nat.reduceAdd, Nat.reduceSub, Nat.reduceMul, reduceCtorEq, TAS, TBS, TCS, hll]) (fun j hj => ?_)
  have hj : j ≤ l.length := hj
  have hb0 : (0 : Int) ≤ (j : Int) := by omega
  by_cases hlt : j < l.length
  · obtain ⟨x, hx⟩ : ∃ x, l[j]? = some x := ⟨l[j], by simp [hlt]⟩
    have hcall := ih x (List.mem_of_getElem? hx)
    have hget := Tp.ds_get l j x hx
    have hb1 : (j : Int) < (l.length : Int) := by omega
    have hw3 : IntKind.i64.wrap ((j : Int) + 1) = ((j + 1 : Nat) : Int) := by rw [wrap_in (by omega) (by omega)]; omega
    have hsz := sizes_app2 l j x hx
    have hsz2 := sizes_take l (j + 1)
    have hw4 : IntKind.i64.wrap (((Tp.sizes (l.take j) + 1 : Nat) : Int) + (x.size : Int)) = ((Tp.sizes (l.take (j + 1)) + 1 : Nat) : Int) := by rw [wrap_in (by omega) (by omega)]; omega
    generalize x.size = n at *
    obtain ⟨k', so', nm', ls', l'⟩ := x
    simp only [Tp.d] at hget hcall
    repeat' (first
      |(with_reducible first|refine swp_seq ?_|refine swp_block ?_|refine swp_skip ?_|refine swp_ret ?_|refine swp_exit ?_|refine swp_label ?_|refine kseq_n ?_|refine kseq_x ?_|refine kseq_r ?_|refine kblk_n ?_|refine kblk_r ?_|refine kblk_xs ?_|refine kloop_x ?_|refine kloop_r ?_)
      |((with_reducible refine kblk_xn ?_ ?_);rfl)
      |((with_reducible refine swp_regionP ?_ ?_ (fun K' hK' => ?_));rfl;rfl;simp only [UN, LM, Nat.reduceBEq, Nat.reduceLeDiff, Int.reduceLE, Int.reduceLT, Int.reduceToNat, Nat.reduceAdd, Nat.reduceSub, Nat.reduceMul, reduceCtorEq, TAS, TBS, TCS, Int.toNat_natCast, hget, hll, hb0, hb1];(repeat (refine And.intro ?_ ?_; focus (clear hK'; intros; simp_all; done)));(try (refine hK' _ _ ?_; clear hK'; clear K')))
      |((with_reducible refine swp_cond ?_ ?_);rfl;refine ⟨_, rfl, fun h => ?_, fun h => ?_⟩ <;> (try (exfalso; exact absurd h (by decide)))))
    refine stop_callF rfl (by simp only [UN, LM, Nat.reduceBEq, Nat.reduceLeDiff, Int.reduceLE, Int.reduceLT, Int.reduceToNat, Nat.reduceAdd, Nat.reduceSub, Nat.reduceMul, reduceCtorEq]) rfl rfl (hcall ) ?_
    simp only [UN, LM, Nat.reduceBEq, Nat.reduceLeDiff, Int.reduceLE, Int.reduceLT, Int.reduceToNat, Nat.reduceAdd, Nat.reduceSub, Nat.reduceMul, reduceCtorEq, TAS, TBS, TCS, inX, dropS,  hw4]
    (repeat (refine And.intro ?_ ?_; focus (clear hK'; intros; simp_all; done)))
    (try (refine hK' _ _ ?_; clear hK'; clear K'))
    repeat' (first
      |(with_reducible first|refine swp_seq ?_|refine swp_block ?_|refine swp_skip ?_|refine swp_ret ?_|refine swp_exit ?_|refine swp_label ?_|refine kseq_n ?_|refine kseq_x ?_|refine kseq_r ?_|refine kblk_n ?_|refine kblk_r ?_|refine kblk_xs ?_|refine kloop_x ?_|refine kloop_r ?_)
      |((with_reducible refine kblk_xn ?_ ?_);rfl)
      |((with_reducible refine swp_regionP ?_ ?_ (fun K' hK' => ?_));rfl;rfl;simp only [UN, LM, Nat.reduceBEq, Nat.reduceLeDiff, Int.reduceLE, Int.reduceLT, Int.reduceToNat, Nat.reduceAdd, Nat.reduceSub, Nat.reduceMul, reduceCtorEq, TAS, TBS, TCS, hw3];(repeat (refine And.intro ?_ ?_; focus (clear hK'; intros; simp_all; done)));(try (refine hK' _ _ ?_; clear hK'; clear K')))
      |((with_reducible refine swp_cond ?_ ?_);rfl;refine ⟨_, rfl, fun h => ?_, fun h => ?_⟩ <;> (try (exfalso; exact absurd h (by decide)))))
    refine ⟨j + 1, (by show j + 1 ≤ l.length; omega), (by show l.length - (j + 1) < l.length - j; omega), by refine sub_of h0 ?_ ?_ ?_ <;> simp only [US, UN, LM, Nat.reduceBEq, Nat.reduceLeDiff, Int.reduceLE, Int.reduceLT, Int.reduceToNat, Nat.reduceAdd, Nat.reduceSub, Nat.reduceMul, reduceCtorEq, TAS, TBS, TCS]⟩
  · have hb1 : ¬ (j : Int) < (l.length : Int) := by omega
    rw [List.take_of_length_le (by omega)]
    repeat' (first
      |(with_reducible first|refine swp_seq ?_|refine swp_block ?_|refine swp_skip ?_|refine swp_ret ?_|refine swp_exit ?_|refine swp_label ?_|refine kseq_n ?_|refine kseq_x ?_|refine kseq_r ?_|refine kblk_n ?_|refine kblk_r ?_|refine kblk_xs ?_|refine kloop_x ?_|refine kloop_r ?_)
      |((with_reducible refine kblk_xn ?_ ?_);rfl)
      |((with_reducible refine swp_regionP ?_ ?_ (fun K' hK' => ?_));rfl;rfl;simp only [UN, LM, Nat.reduceBEq, Nat.reduceLeDiff, Int.reduceLE, Int.reduceLT, Int.reduceToNat, Nat.reduceAdd, Nat.reduceSub, Nat.reduceMul, reduceCtorEq, TAS, TBS, TCS, hb1];(repeat (refine And.intro ?_ ?_; focus (clear hK'; intros; simp_all; done)));(try (refine hK' _ _ ?_; clear hK'; clear K')))
      |((with_reducible refine swp_cond ?_ ?_);rfl;refine ⟨_, rfl, fun h => ?_, fun h => ?_⟩ <;> (try (exfalso; exact absurd h (by decide)))))
    simp only [Kret, retL, retOne, oneV, UN, LM, Nat.reduceBEq, Nat.reduceLeDiff, Int.reduceLE, Int.reduceLT, Int.reduceToNat, Nat.reduceAdd, Nat.reduceSub, Nat.reduceMul, reduceCtorEq, TAS, TBS, TCS]
theorem size_fn (Γ : Gl) {x : Tp} (h : OkT x) : x.size ≤ 4611686018427387904 → DFn Tryd.prog Γ 49 [x.d] (iD (x.size : Nat)) := by
  induction h with
  | nil => intro _; exact size_step Γ _ _ _ _ _ (by simp [Tp.sizes]) (by simp) (fun x hx => by cases hx)
  | pass k so x hk h1 h3 hx ih =>
    intro hz
    simp only [Tp.size, Tp.sizes] at hz
    exact size_step Γ _ _ _ _ _ (by simp only [Tp.sizes]; omega) (by simp) (fun y hy => by rw [show y = x by simpa using hy]; exact ih (by omega))
  | give k x y hk hx hy ihx ihy =>
    intro hz
    simp only [Tp.size, Tp.sizes] at hz
    refine size_step Γ _ _ _ _ _ (by simp only [Tp.sizes]; omega) (by simp) (fun z hz2 => ?_)
    rcases List.mem_cons.1 hz2 with rfl | hz2
    · exact ihx (by omega)
    · obtain rfl : z = y := by simpa using hz2
      exact ihy (by omega)
  | pick k ls l hk hl hn h ih =>
    intro hz
    simp only [Tp.size] at hz
    have h6 := labels_len hl
    exact size_step Γ _ _ _ _ _ (by omega) (by omega) (fun y hy => ih y hy (by have := Tp.size_mem hy; omega))
  | bind nm x hn hx ih =>
    intro hz
    simp only [Tp.size, Tp.sizes] at hz
    exact size_step Γ _ _ _ _ _ (by simp only [Tp.sizes]; omega) (by simp) (fun y hy => by rw [show y = x by simpa using hy]; exact ih (by omega))
  | var nm hn => intro _; exact size_step Γ _ _ _ _ _ (by simp [Tp.sizes]) (by simp) (fun x hx => by cases hx)
end Go.Proofs.YtgecnlcbdbaneaaDoor
