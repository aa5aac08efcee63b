/- exprs.eval at a well-sorted expression. -/
import Derived.Test.YtiobdkibbhpojaaDoorX4
import Derived.Test.YtiobdkibbhpojaaDoorX2
import Derived.Test.YtiobdkibbhpojaaDoorX3
set_option linter.unusedVariables false
set_option linter.unusedSimpArgs false
namespace Go.Proofs.YtiobdkibbhpojaaDoor
open Go.RowKit Go.Sw

theorem cutAt_le (l : List UInt8) : ∀ n, cutAt l n ≤ n
  | 0 => Nat.le_refl _
  | n + 1 => by
    unfold cutAt
    split
    · exact Nat.le_refl _
    · have := cutAt_le l n; omega
theorem cutAt_start (l : List UInt8) (h0 : Utf.startB (l.getD 0 0) = true) : ∀ n, Utf.startB (l.getD (cutAt l n) 0) = true
  | 0 => h0
  | n + 1 => by
    unfold cutAt
    split
    · assumption
    · exact cutAt_start l h0 n
theorem cutAt_ge (l : List UInt8) (k : Nat) (hk : Utf.startB (l.getD k 0) = true) : ∀ n, k ≤ n → k ≤ cutAt l n
  | 0, h => h
  | n + 1, h => by
    unfold cutAt
    split
    · exact h
    · rename_i hn
      rcases Nat.lt_or_ge k (n + 1) with h1 | h1
      · exact cutAt_ge l k hk n (by omega)
      · have : k = n + 1 := by omega
        subst this
        exact absurd hk hn

/-- What is joined: whole letters, all of the first one's. -/
theorem cut_joined (a b : List Nat) (ha : ∀ c ∈ a, Utf.good c) (hb : ∀ c ∈ b, Utf.good c) (la : (Utf.encs a).length ≤ 100) :
    ∃ k, cutS (Utf.encs (a ++ b)) = Utf.encs (a ++ b.take k) ∧ (Utf.encs (a ++ b.take k)).length ≤ 100 ∧ ((Utf.encs (a ++ b)).length ≤ 100 → b.take k = b) := by
  have hg : ∀ c ∈ a ++ b, Utf.good c := fun c hc => by rcases List.mem_append.1 hc with h | h; exact ha c h; exact hb c h
  unfold cutS
  by_cases hl : (Utf.encs (a ++ b)).length ≤ 100
  · exact ⟨b.length, by rw [if_pos hl, List.take_length], by rw [List.take_length]; exact hl, fun _ => List.take_length⟩
  · rw [if_neg hl]
    have hne : 0 < (Utf.encs (a ++ b)).length := by omega
    have h0 : Utf.startB ((Utf.encs (a ++ b)).getD 0 0) = true := Utf.start_first _ hg _ (by rw [List.getElem?_eq_getElem hne]; simp [List.getD, hne])
    have hst := cutAt_start _ h0 100
    have hle := cutAt_le (Utf.encs (a ++ b)) 100
    have hla : Utf.startB ((Utf.encs (a ++ b)).getD (Utf.encs a).length 0) = true := by
      have hlt : (Utf.encs a).length < (Utf.encs (a ++ b)).length := by omega
      have e : (Utf.encs (a ++ b)).getD (Utf.encs a).length 0 = (Utf.encs b).getD 0 0 := by
        rw [Utf.encs_append]
        simp [List.getD, List.getElem?_append_right]
      rw [e]
      have hbl : 0 < (Utf.encs b).length := by rw [Utf.encs_append, List.length_append] at hlt; omega
      exact Utf.start_first b hb _ (by rw [List.getElem?_eq_getElem hbl]; simp [List.getD, hbl])
    have hge := cutAt_ge _ _ hla 100 la
    generalize cutAt (Utf.encs (a ++ b)) 100 = m at hst hle hge
    have hm : (Utf.encs (a ++ b))[m]? = some ((Utf.encs (a ++ b)).getD m 0) := by
      have : m < (Utf.encs (a ++ b)).length := by omega
      rw [List.getElem?_eq_getElem this]; simp [List.getD, this]
    -- cut behind a: by b alone
    have hb' : (Utf.encs b)[m - (Utf.encs a).length]? = some ((Utf.encs (a ++ b)).getD m 0) := by
      rw [Utf.encs_append, List.getElem?_append_right hge] at hm
      rw [hm, ← Utf.encs_append]
    obtain ⟨k, hk, he⟩ := Utf.cut_encs b _ _ hb hb' hst
    have hcut : (Utf.encs (a ++ b)).take m = Utf.encs (a ++ b.take k) := by
      rw [Utf.encs_append, List.take_append, List.take_of_length_le hge, he, Utf.encs_append]
    refine ⟨k, hcut, ?_, fun h => absurd h hl⟩
    rw [← hcut, List.length_take]
    omega

theorem slc_at {w : World} {M : Nat → Prop} {L : List D} {u : Value} (h : RpD w M (.d (.slc L) u)) : ∃ a c, u = .slice a L.length c := by
  cases h with
  | slc0 a c => exact ⟨a, c, rfl⟩
  | slc hn _ h => subst hn; exact ⟨_, _, rfl⟩
def Bd.va (b : Bd) : Va := ⟨b.t, b.n, b.s⟩
theorem eval_nm (env : List Bd) (henv : env.length ≤ 140737488355328) (nm : ByteArray) (t n : Int) (s : ByteArray) (l : List Ex) (hf : ∃ d ∈ env, d.nm.toList = nm.toList) :
    DFn Tryd.prog Γ0 47 [(Ex.mk 2 nm t n s l).d, envD env] (vD (lookB env nm.toList env.length).va) := by
  refine ⟨by kernel_rfl, fun F w us hG hN hF hu => ?_⟩
  unfold Ex.d at hu
  cases hu with
  | dsc h1 ht =>
    cases ht with
    | dsc h2 ht =>
      cases ht
      cases h1 with
      | agg h1 =>
        cases h1 with
        | dsc g1 h1 => cases h1 with
          | dsc g2 h1 => cases h1 with
            | dsc g3 h1 => cases h1 with
              | dsc g4 h1 => cases h1 with
                | dsc g5 h1 => cases h1 with
                  | dsc g6 h1 =>
                    cases h1; cases g1; cases g2; cases g3; cases g4; cases g5
                    obtain ⟨ka, kc, rfl⟩ := slc_at g6
                    obtain ⟨ea, ec, rfl, hE⟩ := env_at h2
                    refine (eval_name nm t n s ka _ kc ea ec env henv w hE hf).mono ?_
                    rintro e w' ⟨rfl, hb⟩
                    exact ⟨_, rfl, hb, RpD.ofVal (x := vD (lookB env nm.toList env.length).va) rfl⟩

mutual
/-- exprs.eval. -/
def evl (env : List Bd) : Ex → Va
  | .mk k nm t n s l => if k = 1 then ⟨t, n, s⟩ else if k = 2 then (lookB env nm.toList env.length).va else match evls env l with
    | [v] => ev1 nm.toList v
    | [v, u] => ev2 nm.toList v u
    | _ => ⟨0, 0, ⟨#[]⟩⟩
def evls (env : List Bd) : List Ex → List Va
  | [] => []
  | x :: l => evl env x :: evls env l
end
mutual
/-- What exprs.Check lets by. -/
def wf : Ex → Prop
  | .mk k nm t n s l => (k = 1 ∧ vcheck t n s = 0) ∨ k = 2 ∨ (k = 3 ∧ opB nm l.length = true ∧ wfs l)
def wfs : List Ex → Prop
  | [] => True
  | x :: l => wf x ∧ wfs l
end
mutual
theorem wf_of_chk : ∀ (x : Ex) (left : Int), (chk x left).1 = 0 → wf x
  | .mk k nm t n s l, left, h => by
    unfold chk at h
    unfold wf
    split at h
    · simp at h
    · split at h
      · rename_i h2
        exact .inl ⟨h2.1, h⟩
      · split at h
        · rename_i h3
          exact .inr (.inl h3.1)
        · split at h
          · rename_i h4
            exact .inr (.inr ⟨h4.1, h4.2.2, wfs_of_chks l _ h⟩)
          · simp at h
theorem wfs_of_chks : ∀ (l : List Ex) (left : Int), (chks l left).1 = 0 → wfs l
  | [], left, h => trivial
  | x :: l, left, h => by
    unfold chks at h
    split at h
    · rename_i hc; exact absurd h hc
    · rename_i hc
      exact ⟨wf_of_chk x left (by omega), wfs_of_chks l _ h⟩
end
def Va.good (v : Va) : Prop := vcheck v.t v.n v.s = 0
theorem good_small {v : Va} (h : v.good) : v.s.size ≤ 100 := by
  unfold Va.good vcheck at h
  have hz : v.s.toList = [] → v.s.size ≤ 100 := fun he => by
    rw [ByteArray.toList_eq] at he
    have := congrArg List.length he
    rw [Utf.sizeL] at this
    simp only [List.length_nil] at this
    omega
  (repeat' split at h) <;> first | omega | (exact hz (by assumption))
theorem emptyS : (⟨#[]⟩ : ByteArray).toList = [] := emptyL
theorem good_int (n : Int) : Va.good ⟨1, n, ⟨#[]⟩⟩ := by simp [Va.good, vcheck, emptyL]
theorem good_truth (b : Bool) : Va.good (truthV b) := by cases b <;> simp [truthV, Va.good, vcheck, emptyL]
theorem good_text {s : ByteArray} (h1 : s.size ≤ 100) (h2 : Lib.validD s.data.toList = true) : Va.good ⟨3, 0, s⟩ := by
  have : ¬ (100 : Int) < (s.size : Int) := by omega
  simp [Va.good, vcheck, h2, this]
theorem good_three {v : Va} (h : v.good) (ht : v.t = 3) : v.n = 0 ∧ v.s.size ≤ 100 ∧ Lib.validD v.s.data.toList = true := by
  simp only [Va.good, vcheck, ht] at h
  (repeat' split at h) <;> simp_all <;> omega
theorem good_join {a b : Va} (ga : a.good) (gb : b.good) (ta : a.t = 3) (tb : b.t = 3) : (joinV a b).t = 3 ∧ (joinV a b).good ∧ textE [a, b] = 0 := by
  obtain ⟨n1, l1, v1⟩ := good_three ga ta
  obtain ⟨n2, l2, v2⟩ := good_three gb tb
  obtain ⟨t, n, s⟩ := a
  obtain ⟨t', n', s'⟩ := b
  simp only at *
  subst ta tb n1 n2
  have h : textE [⟨3, 0, s⟩, ⟨3, 0, s'⟩] = 0 := by rw [text_two, text_of l1 v1, text_of l2 v2]; simp
  have e : joinV ⟨3, 0, s⟩ ⟨3, 0, s'⟩ = ⟨3, 0, strL (cutS (s ++ s').data.toList)⟩ := by simp only [joinV, if_pos h]
  rw [e]
  clear ga gb
  obtain ⟨ca, gca, rfl⟩ := text_out v1
  obtain ⟨cb, gcb, rfl⟩ := text_out v2
  have e2 : (strL (Utf.encs ca) ++ strL (Utf.encs cb)).data.toList = Utf.encs (ca ++ cb) := by rw [strL_app, strL_list, Utf.encs_append]
  rw [e2]
  obtain ⟨k, h1, h2, h3⟩ := cut_joined ca cb gca gcb (by rw [strL_size] at l1; exact l1)
  rw [h1]
  refine ⟨rfl, good_text (by rw [strL_size]; exact h2) (text_in fun c hc => ?_), h⟩
  rcases List.mem_append.1 hc with h | h
  · exact gca c h
  · exact gcb c (List.mem_of_mem_take h)

theorem look_in (env : List Bd) (nm : List UInt8) (τ : Int) : ∀ m, m ≤ env.length → look (env.map (·.nm)) (env.map (·.t)) nm m = (τ, 0) → (∃ d ∈ env, d.nm.toList = nm) ∧ (lookB env nm m).t = τ ∧ lookB env nm m ∈ env
  | 0, _, h => by simp [look] at h
  | m + 1, hm, h => by
    have hlt : m < env.length := by omega
    have e1 : (env.map (·.nm)).getD m ByteArray.empty = (env.getD m Bd.zero).nm := by simp [List.getD, hlt]
    have e2 : (env.map (·.t)).getD m 0 = (env.getD m Bd.zero).t := by simp [List.getD, hlt]
    have hmem : env.getD m Bd.zero ∈ env := by simp [List.getD, hlt]
    unfold look at h
    unfold lookB
    rw [e1, e2] at h
    by_cases hc : (env.getD m Bd.zero).nm.toList = nm
    · rw [if_pos hc] at h ⊢
      exact ⟨⟨_, hmem, hc⟩, by simpa using h, hmem⟩
    · rw [if_neg hc] at h ⊢
      exact look_in env nm τ m (by omega) h
theorem ev1_good (l : List UInt8) (v : Va) (h : singleL l = true) : (ev1 l v).t = outL l ∧ (ev1 l v).good := by
  simp only [singleL, Bool.or_eq_true, beq_iff_eq] at h
  rcases h with (rfl | rfl) | rfl
  · exact ⟨rfl, good_truth _⟩
  · exact ⟨rfl, good_int _⟩
  · exact ⟨rfl, good_int _⟩
theorem ev2_good (l : List UInt8) (v u : Va) (h : 0 < levelL l) (gv : v.good) (gu : u.good) (ht : inL l ≠ 0 → v.t = inL l ∧ u.t = inL l) : (ev2 l v u).t = outL l ∧ (ev2 l v u).good := by
  unfold ev2
  by_cases h1 : l = [111, 114]
  · subst h1; exact ⟨rfl, good_truth _⟩
  by_cases h2 : l = [97, 110, 100]
  · subst h2; exact ⟨rfl, good_truth _⟩
  by_cases h3 : l = [61, 61]
  · subst h3; exact ⟨rfl, good_truth _⟩
  by_cases h4 : l = [60] ∨ l = [60, 61]
  · rw [if_neg h1, if_neg h2, if_neg h3, if_pos h4]
    rcases h4 with rfl | rfl <;> exact ⟨rfl, good_truth _⟩
  by_cases h5 : l = [43, 43]
  · subst h5
    obtain ⟨a, b⟩ := ht (by decide)
    have := good_join gv gu a b
    exact ⟨this.1, this.2.1⟩
  · rw [if_neg h1, if_neg h2, if_neg h3, if_neg h4, if_neg h5]
    refine ⟨?_, good_int _⟩
    have h6 : l ≠ [110, 111, 116] := fun h' => by subst h'; exact absurd h (by decide)
    have h7 : ¬ (l = [60]) := fun h' => h4 (.inl h')
    have h8 : ¬ (l = [60, 61]) := fun h' => h4 (.inr h')
    simp [outL, h1, h2, h3, h5, h6, h7, h8]

theorem srts_cons {names : List ByteArray} {sorts : List Int} {x : Ex} {l : List Ex} {inn : Int} {fst : Bool} {out τ : Int} (h : srts names sorts (x :: l) inn fst out = (τ, 0)) :
    srt names sorts x = ((srt names sorts x).1, 0) ∧ (fst = false → (srt names sorts x).1 = inn) ∧ srts names sorts l (if fst then (srt names sorts x).1 else inn) false out = (τ, 0) := by
  unfold srts at h
  by_cases a : (srt names sorts x).2 ≠ 0
  · rw [if_pos a] at h; simp at h; exact absurd h.2 a
  · rw [if_neg a] at h
    refine ⟨Prod.ext rfl (by simpa using a), ?_⟩
    by_cases b : (srt names sorts x).1 ≠ (if fst = true then (srt names sorts x).1 else inn)
    · rw [if_pos b] at h; simp at h
    · rw [if_neg b] at h
      refine ⟨fun hf => ?_, h⟩
      subst hf
      simpa using b
theorem typed (env : List Bd) (henv : env.length ≤ 140737488355328) (hg : ∀ b ∈ env, b.va.good) : ∀ (N : Nat) (x : Ex), x.size ≤ N → wf x → ∀ τ, srt (env.map (·.nm)) (env.map (·.t)) x = (τ, 0) →
    (evl env x).t = τ ∧ (evl env x).good ∧ DFn Tryd.prog Γ0 47 [x.d, envD env] (vD (evl env x))
  | 0, x, h, _, _, _ => by have := x.size_pos; omega
  | N + 1, .mk k nm t n s l, hsz, hw, τ, hs => by
    have IH := fun (x : Ex) (hx : x ∈ l) => typed env henv hg N x (by have := Ex.size_mem hx; simp only [Ex.size] at hsz; omega)
    unfold srt at hs
    unfold wf at hw
    unfold evl
    by_cases hk1 : k = 1
    · subst hk1
      simp only [if_true, Prod.mk.injEq, and_true] at hs ⊢
      rcases hw with hw | hw | hw
      · exact ⟨hs, hw.2, eval_lit env nm t n s l⟩
      · omega
      · omega
    · rw [if_neg hk1] at hs ⊢
      by_cases hk2 : k = 2
      · subst hk2
        simp only [if_true] at hs ⊢
        have := look_in env nm.toList τ env.length (Nat.le_refl _) (by rw [List.length_map] at hs; exact hs)
        exact ⟨this.2.1, hg _ this.2.2, eval_nm env henv nm t n s l this.1⟩
      · rw [if_neg hk2] at hs ⊢
        rcases hw with hw | hw | hw
        · omega
        · omega
        obtain ⟨-, hop, hwl⟩ := hw
        have hlen := opB_len hop
        simp only [opB, Bool.or_eq_true, Bool.and_eq_true, beq_iff_eq, decide_eq_true_eq] at hop
        match l, hlen, hop, hwl, hs, IH with
        | [], _, hop, _, _, _ => simp at hop
        | [y], _, hop, hwl, hs, IH =>
          simp only [List.length_singleton] at hop
          have hsing : singleL nm.toList = true := by
            rcases hop with h | h
            · exact h.1
            · omega
          obtain ⟨hy, -, hs⟩ := srts_cons hs
          simp only [srts, Prod.mk.injEq, and_true] at hs
          have h1 := IH y (by simp) hwl.1 _ hy
          have h2 := ev1_good nm.toList (evl env y) hsing
          simp only [evls]
          exact ⟨h2.1.trans hs, h2.2, eval_one env k nm t n s y _ hk1 hk2 (by have := good_small h1.2.1; omega) h1.2.2⟩
        | [y, z], _, hop, hwl, hs, IH =>
          simp only [List.length_cons, List.length_nil] at hop
          have hlev : 0 < levelL nm.toList := by
            rcases hop with h | h
            · omega
            · exact h.1
          obtain ⟨hy, hfy, hs⟩ := srts_cons hs
          obtain ⟨hz, htz, hs⟩ := srts_cons hs
          have htz := htz rfl
          simp only [srts, Prod.mk.injEq, and_true] at hs
          have h1 := IH y (by simp) hwl.1 _ hy
          have h2 := IH z (by simp) hwl.2.1 _ hz
          have h3 := ev2_good nm.toList (evl env y) (evl env z) hlev h1.2.1 h2.2.1 (fun hin => by
            have hb : (inL nm.toList == 0) = false := by simpa using hin
            rw [hb] at htz
            simp only [Bool.false_eq_true, if_false] at htz
            exact ⟨h1.1.trans (hfy hb), h2.1.trans htz⟩)
          simp only [evls]
          exact ⟨h3.1.trans hs, h3.2, eval_two env k nm t n s y z _ _ hk1 hk2 h1.2.2 h2.2.2⟩
        | _ :: _ :: _ :: _, hlen, _, _, _, _ => simp at hlen
end Go.Proofs.YtiobdkibbhpojaaDoor
