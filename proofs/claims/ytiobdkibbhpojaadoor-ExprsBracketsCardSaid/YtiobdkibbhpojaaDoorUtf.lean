/- UTF-8, plain: a text is valid just if it is code points encoded one behind the other; what the model's decoder, counter and converter make of it. No program is named. -/
import Derived.Lib.ValidLaws
import Derived.Lib.RuneCount
import Derived.Lib.TrimUEq
import Derived.Laws.Cover4
import Derived.Laws.IdiomStrings
namespace Go.Proofs.YtiobdkibbhpojaaDoor.Utf
open Go.Lib
set_option linter.unusedSimpArgs false
set_option linter.unusedVariables false

def good (c : Nat) : Prop := c < 55296 ∨ (57344 ≤ c ∧ c ≤ 1114111)
def b8 (n : Nat) : UInt8 := UInt8.ofNat n
def enc (c : Nat) : List UInt8 :=
  if c < 128 then [b8 c]
  else if c < 2048 then [b8 (192 + c / 64), b8 (128 + c % 64)]
  else if c < 65536 then [b8 (224 + c / 4096), b8 (128 + c / 64 % 64), b8 (128 + c % 64)]
  else [b8 (240 + c / 262144), b8 (128 + c / 4096 % 64), b8 (128 + c / 64 % 64), b8 (128 + c % 64)]
def encs (l : List Nat) : List UInt8 := l.flatMap enc

theorem b8_toNat (n : Nat) (h : n < 256) : (b8 n).toNat = n := by unfold b8; rw [UInt8.toNat_ofNat']; omega
theorem of8 (x : UInt8) (n : Nat) (h : x.toNat = n) : b8 n = x := by subst h; unfold b8; simp

theorem enc_pos (c : Nat) : 1 ≤ (enc c).length ∧ (enc c).length ≤ 4 := by unfold enc; (repeat' split) <;> simp
theorem enc_ne (c : Nat) : enc c ≠ [] := fun h => by have := (enc_pos c).1; rw [h] at this; simp at this

theorem encode_eq (c : Nat) (h : good c) : (Utf8.encode (c : Int)).data.toList = enc c := by
  unfold good at h
  have hv : Utf8.valid (c : Int) = true := by
    unfold Utf8.valid
    simp only [Bool.or_eq_true, Bool.and_eq_true, decide_eq_true_eq]
    omega
  unfold Utf8.encode enc
  simp only [hv, if_true, Int.toNat_natCast]
  (repeat' split) <;> first | rfl | omega

theorem dec2 (n c b0 b1 b2 b3 : Nat) (h : 128 ≤ c) (h' : c < 2048) (hn : 1 < n) (e0 : b0 = 192 + c / 64) (e1 : b1 = 128 + c % 64) : decodeN n b0 b1 b2 b3 = (c, 2) := by
  unfold decodeN
  have q : c / 64 < 32 := by omega
  have e : b0 % 32 * 64 + b1 % 64 = c := by omega
  rw [if_neg (show ¬ b0 < 128 by omega), if_pos (show b0 / 32 = 6 ∧ (1 < n ∧ b1 / 64 = 2) from ⟨by omega, hn, by omega⟩), e, if_pos (show c ≥ 128 by omega)]
theorem dec3 (n c b0 b1 b2 b3 : Nat) (h : 2048 ≤ c) (h' : c < 65536) (hg : good c) (hn : 2 < n) (e0 : b0 = 224 + c / 4096) (e1 : b1 = 128 + c / 64 % 64) (e2 : b2 = 128 + c % 64) : decodeN n b0 b1 b2 b3 = (c, 3) := by
  unfold decodeN
  unfold good at hg
  have e : b0 % 16 * 4096 + b1 % 64 * 64 + b2 % 64 = c := by omega
  rw [if_neg (show ¬ b0 < 128 by omega), if_neg (show ¬ (b0 / 32 = 6 ∧ (1 < n ∧ b1 / 64 = 2)) by omega), if_pos (show b0 / 16 = 14 ∧ (1 < n ∧ b1 / 64 = 2) ∧ (2 < n ∧ b2 / 64 = 2) by omega), e,
    if_pos (show c ≥ 2048 ∧ (c < 55296 ∨ (57344 ≤ c ∧ c ≤ 1114111)) by omega)]
theorem dec4 (n c b0 b1 b2 b3 : Nat) (h : 65536 ≤ c) (hg : good c) (hn : 3 < n) (e0 : b0 = 240 + c / 262144) (e1 : b1 = 128 + c / 4096 % 64) (e2 : b2 = 128 + c / 64 % 64) (e3 : b3 = 128 + c % 64) : decodeN n b0 b1 b2 b3 = (c, 4) := by
  unfold decodeN
  unfold good at hg
  have e : b0 % 8 * 262144 + b1 % 64 * 4096 + b2 % 64 * 64 + b3 % 64 = c := by omega
  rw [if_neg (show ¬ b0 < 128 by omega), if_neg (show ¬ (b0 / 32 = 6 ∧ (1 < n ∧ b1 / 64 = 2)) by omega), if_neg (show ¬ (b0 / 16 = 14 ∧ (1 < n ∧ b1 / 64 = 2) ∧ (2 < n ∧ b2 / 64 = 2)) by omega),
    if_pos (show b0 / 8 = 30 ∧ (1 < n ∧ b1 / 64 = 2) ∧ (2 < n ∧ b2 / 64 = 2) ∧ (3 < n ∧ b3 / 64 = 2) by omega), e,
    if_pos (show c ≥ 65536 ∧ (c < 55296 ∨ (57344 ≤ c ∧ c ≤ 1114111)) by omega)]
theorem decode_enc (c : Nat) (h : good c) (t : List UInt8) : decodeL (enc c ++ t) = (c, (enc c).length) := by
  rw [decodeL_N]
  have hg := h
  unfold good at h
  unfold enc
  by_cases h1 : c < 128
  · simp [decodeN, b8_toNat c (by omega), h1]
  by_cases h2 : c < 2048
  · simp only [h1, h2, if_true, if_false, List.cons_append, List.nil_append, List.length_cons, List.getD_cons_zero, List.getD_cons_succ, List.length_nil]
    exact dec2 _ c _ _ _ _ (by omega) h2 (by omega) (b8_toNat _ (by omega)) (b8_toNat _ (by omega))
  by_cases h3 : c < 65536
  · simp only [h1, h2, h3, if_true, if_false, List.cons_append, List.nil_append, List.length_cons, List.getD_cons_zero, List.getD_cons_succ, List.length_nil]
    exact dec3 _ c _ _ _ _ (by omega) h3 hg (by omega) (b8_toNat _ (by omega)) (b8_toNat _ (by omega)) (b8_toNat _ (by omega))
  · simp only [h1, h2, h3, if_true, if_false, List.cons_append, List.nil_append, List.length_cons, List.getD_cons_zero, List.getD_cons_succ, List.length_nil]
    exact dec4 _ c _ _ _ _ (by omega) hg (by omega) (b8_toNat _ (by omega)) (b8_toNat _ (by omega)) (b8_toNat _ (by omega)) (b8_toNat _ (by omega))

theorem head2 : ∀ l : List UInt8, 1 < l.length → l = l.getD 0 0 :: l.getD 1 0 :: l.drop 2
  | _ :: _ :: _, _ => rfl
theorem head3 : ∀ l : List UInt8, 2 < l.length → l = l.getD 0 0 :: l.getD 1 0 :: l.getD 2 0 :: l.drop 3
  | _ :: _ :: _ :: _, _ => rfl
theorem head4 : ∀ l : List UInt8, 3 < l.length → l = l.getD 0 0 :: l.getD 1 0 :: l.getD 2 0 :: l.getD 3 0 :: l.drop 4
  | _ :: _ :: _ :: _ :: _, _ => rfl
theorem head1 : ∀ l : List UInt8, l ≠ [] → l = l.getD 0 0 :: l.drop 1
  | _ :: _, _ => rfl

theorem enc_decode (l : List UInt8) (hne : l ≠ []) (hd : ¬ ((decodeL l).1 = 65533 ∧ (decodeL l).2 = 1)) :
    good (decodeL l).1 ∧ l = enc (decodeL l).1 ++ l.drop (decodeL l).2 ∧ (decodeL l).2 = (enc (decodeL l).1).length := by
  rw [decodeL_N] at hd ⊢
  have h0 := (l.getD 0 0).toNat_lt
  have h1 := (l.getD 1 0).toNat_lt
  have h2 := (l.getD 2 0).toNat_lt
  have h3 := (l.getD 3 0).toNat_lt
  generalize ha : (l.getD 0 0).toNat = b0 at *
  generalize hb : (l.getD 1 0).toNat = b1 at *
  generalize hc : (l.getD 2 0).toNat = b2 at *
  generalize hdd : (l.getD 3 0).toNat = b3 at *
  unfold decodeN at hd ⊢
  by_cases c0 : b0 < 128
  · simp only [c0, if_true]
    refine ⟨Or.inl (by omega), ?_, ?_⟩
    · have := head1 l hne
      simp only [enc, c0, if_true, of8 _ _ ha]
      exact this
    · simp [enc, c0]
  rw [if_neg c0] at hd ⊢
  by_cases c1 : b0 / 32 = 6 ∧ (1 < l.length ∧ b1 / 64 = 2)
  · rw [if_pos c1] at hd ⊢
    by_cases d1 : b0 % 32 * 64 + b1 % 64 ≥ 128
    · rw [if_pos d1]
      generalize hcc : b0 % 32 * 64 + b1 % 64 = c at *
      have k0 : ¬ c < 128 := by omega
      have k1 : c < 2048 := by omega
      refine ⟨Or.inl (by show c < 55296; omega), ?_, ?_⟩
      · have e := head2 l c1.2.1
        simp only [enc, k0, k1, if_true, if_false]
        rw [of8 _ (192 + c / 64) (ha.trans (by omega)), of8 _ (128 + c % 64) (hb.trans (by omega))]
        exact e
      · simp [enc, k0, k1]
    · rw [if_neg d1] at hd
      exact absurd ⟨rfl, rfl⟩ hd
  rw [if_neg c1] at hd ⊢
  by_cases c2 : b0 / 16 = 14 ∧ (1 < l.length ∧ b1 / 64 = 2) ∧ (2 < l.length ∧ b2 / 64 = 2)
  · rw [if_pos c2] at hd ⊢
    generalize hcc : b0 % 16 * 4096 + b1 % 64 * 64 + b2 % 64 = c at *
    by_cases d1 : c ≥ 2048 ∧ (c < 55296 ∨ (57344 ≤ c ∧ c ≤ 1114111))
    · rw [if_pos d1]
      have k0 : ¬ c < 128 := by omega
      have k1 : ¬ c < 2048 := by omega
      have k2 : c < 65536 := by omega
      refine ⟨d1.2, ?_, ?_⟩
      · have e := head3 l c2.2.2.1
        simp only [enc, k0, k1, k2, if_true, if_false]
        rw [of8 _ (224 + c / 4096) (ha.trans (by omega)), of8 _ (128 + c / 64 % 64) (hb.trans (by omega)), of8 _ (128 + c % 64) (hc.trans (by omega))]
        exact e
      · simp [enc, k0, k1, k2]
    · rw [if_neg d1] at hd
      exact absurd ⟨rfl, rfl⟩ hd
  rw [if_neg c2] at hd ⊢
  by_cases c3 : b0 / 8 = 30 ∧ (1 < l.length ∧ b1 / 64 = 2) ∧ (2 < l.length ∧ b2 / 64 = 2) ∧ (3 < l.length ∧ b3 / 64 = 2)
  · rw [if_pos c3] at hd ⊢
    generalize hcc : b0 % 8 * 262144 + b1 % 64 * 4096 + b2 % 64 * 64 + b3 % 64 = c at *
    by_cases d1 : c ≥ 65536 ∧ (c < 55296 ∨ (57344 ≤ c ∧ c ≤ 1114111))
    · rw [if_pos d1]
      have k0 : ¬ c < 128 := by omega
      have k1 : ¬ c < 2048 := by omega
      have k2 : ¬ c < 65536 := by omega
      refine ⟨d1.2, ?_, ?_⟩
      · have e := head4 l c3.2.2.2.1
        simp only [enc, k0, k1, k2, if_true, if_false]
        rw [of8 _ (240 + c / 262144) (ha.trans (by omega)), of8 _ (128 + c / 4096 % 64) (hb.trans (by omega)), of8 _ (128 + c / 64 % 64) (hc.trans (by omega)), of8 _ (128 + c % 64) (hdd.trans (by omega))]
        exact e
      · simp [enc, k0, k1, k2]
    · rw [if_neg d1] at hd
      exact absurd ⟨rfl, rfl⟩ hd
  rw [if_neg c3] at hd
  exact absurd ⟨rfl, rfl⟩ hd

theorem encs_nil : encs [] = [] := rfl
theorem encs_cons (c : Nat) (l : List Nat) : encs (c :: l) = enc c ++ encs l := by simp [encs]
theorem encs_append (a b : List Nat) : encs (a ++ b) = encs a ++ encs b := by simp [encs]
theorem encs_ne (c : Nat) (l : List Nat) : encs (c :: l) ≠ [] := by rw [encs_cons]; simp [enc_ne]

theorem valid_encs : ∀ l : List Nat, (∀ c ∈ l, good c) → validD (encs l) = true
  | [], _ => by rw [encs_nil]; exact validD_nil
  | c :: l, h => by
    rw [validD_step _ (encs_ne c l), encs_cons, decode_enc c (h c (by simp))]
    have hc := h c (by simp)
    have : ¬ (c = 65533 ∧ (enc c).length = 1) := by
      rintro ⟨rfl, h2⟩
      revert h2; decide
    simp only [this, if_false, List.drop_left]
    exact valid_encs l (fun x hx => h x (by simp [hx]))

theorem valid_iff : ∀ (n : Nat) (l : List UInt8), l.length ≤ n → validD l = true → ∃ cs : List Nat, (∀ c ∈ cs, good c) ∧ l = encs cs
  | 0, l, hl, _ => ⟨[], by simp, by cases l <;> simp_all [encs_nil]⟩
  | n + 1, l, hl, hv => by
    by_cases hne : l = []
    · exact ⟨[], by simp, by rw [hne, encs_nil]⟩
    · rw [validD_step l hne] at hv
      by_cases hd : (decodeL l).1 = 65533 ∧ (decodeL l).2 = 1
      · simp [hd] at hv
      · simp only [hd, if_false] at hv
        obtain ⟨hg, he, hlen⟩ := enc_decode l hne hd
        have hp := (enc_pos (decodeL l).1).1
        obtain ⟨cs, h1, h2⟩ := valid_iff n _ (by rw [List.length_drop]; omega) hv
        exact ⟨(decodeL l).1 :: cs, by intro c hc; rcases List.mem_cons.1 hc with rfl | hc; exact hg; exact h1 c hc, by rw [encs_cons, ← h2]; exact he⟩
theorem valid_out (l : List UInt8) (h : validD l = true) : ∃ cs : List Nat, (∀ c ∈ cs, good c) ∧ l = encs cs := valid_iff l.length l (Nat.le_refl _) h

/-- one text is encoded in one way. -/
theorem encs_inj : ∀ (a b : List Nat), (∀ c ∈ a, good c) → (∀ c ∈ b, good c) → encs a = encs b → a = b
  | [], [], _, _, _ => rfl
  | [], d :: b, _, _, h => absurd h.symm (encs_ne d b)
  | c :: a, [], _, _, h => absurd h (encs_ne c a)
  | c :: a, d :: b, ha, hb, h => by
    have e1 := decode_enc c (ha c (by simp)) (encs a)
    have e2 := decode_enc d (hb d (by simp)) (encs b)
    rw [← encs_cons, h, encs_cons, e2] at e1
    have hcd : d = c := (Prod.mk.inj e1).1
    subst hcd
    rw [encs_cons, encs_cons] at h
    rw [encs_inj a b (fun x hx => ha x (by simp [hx])) (fun x hx => hb x (by simp [hx])) (List.append_cancel_left h)]

theorem encs_length (l : List Nat) : l.length ≤ (encs l).length := by
  induction l with
  | nil => simp
  | cons c l ih => rw [encs_cons]; have := (enc_pos c).1; simp; omega

theorem sizeL (s : ByteArray) : s.data.toList.length = s.size := rfl
theorem decode_at (s : ByteArray) (pos : Nat) (c : Nat) (t : List UInt8) (hc : good c) (h : s.data.toList.drop pos = enc c ++ t) : Utf8.decode s pos = (c, (enc c).length) := by
  rw [← decodeL_drop, h, decode_enc c hc]
theorem drop_add (s : ByteArray) (pos : Nat) (c : Nat) (t : List UInt8) (h : s.data.toList.drop pos = enc c ++ t) : s.data.toList.drop (pos + (enc c).length) = t := by
  rw [← List.drop_drop, h, List.drop_left]
theorem pos_lt (s : ByteArray) (pos : Nat) (c : Nat) (t : List UInt8) (h : s.data.toList.drop pos = enc c ++ t) : pos < s.size := by
  have h1 := congrArg List.length h
  have h2 := (enc_pos c).1
  rw [List.length_drop, List.length_append] at h1
  have : s.data.toList.length = s.size := sizeL s
  omega

theorem count_from (s : ByteArray) : ∀ (cs : List Nat) (fuel pos : Nat), (∀ c ∈ cs, good c) → s.data.toList.drop pos = encs cs → cs.length ≤ fuel → runeCountFrom s fuel pos = cs.length
  | [], fuel, pos, _, h, _ => by
    refine runeCountFrom_end s fuel pos ?_
    have h1 := congrArg List.length h
    rw [List.length_drop, encs_nil, List.length_nil] at h1
    have : s.data.toList.length = s.size := sizeL s
    omega
  | c :: cs, 0, _, _, _, hf => by simp at hf
  | c :: cs, fuel + 1, pos, hg, h, hf => by
    rw [encs_cons] at h
    unfold runeCountFrom
    rw [if_pos (pos_lt s pos c _ h), decode_at s pos c _ (hg c (by simp)) h, count_from s cs fuel _ (fun x hx => hg x (by simp [hx])) (drop_add s pos c _ h) (by simp at hf; omega)]
    simp; omega
theorem count_encs (s : ByteArray) (cs : List Nat) (hg : ∀ c ∈ cs, good c) (h : s.data.toList = encs cs) : runeCount s = cs.length :=
  count_from s cs _ 0 hg (by simpa using h) (by have := encs_length cs; rw [← h, sizeL] at this; exact this)

theorem runes_from (s : ByteArray) : ∀ (cs : List Nat) (fuel pos : Nat) (acc : Array Value), (∀ c ∈ cs, good c) → s.data.toList.drop pos = encs cs → cs.length ≤ fuel →
    Conv.runesFrom s fuel pos acc = acc ++ (cs.map fun (c : Nat) => Value.int .i32 (c : Int)).toArray
  | [], fuel, pos, acc, _, h, _ => by
    have h1 := congrArg List.length h
    rw [List.length_drop, encs_nil, List.length_nil] at h1
    have h2 : s.data.toList.length = s.size := sizeL s
    cases fuel with
    | zero => simp [Conv.runesFrom]
    | succ fuel =>
      unfold Conv.runesFrom
      rw [if_neg (by omega)]
      simp
  | c :: cs, 0, _, _, _, _, hf => by simp at hf
  | c :: cs, fuel + 1, pos, acc, hg, h, hf => by
    rw [encs_cons] at h
    unfold Conv.runesFrom
    rw [if_pos (pos_lt s pos c _ h), decode_at s pos c _ (hg c (by simp)) h]
    simp only
    rw [runes_from s cs fuel _ _ (fun x hx => hg x (by simp [hx])) (drop_add s pos c _ h) (by simp at hf; omega)]
    apply Array.ext'
    simp
theorem runes_encs (s : ByteArray) (cs : List Nat) (hg : ∀ c ∈ cs, good c) (h : s.data.toList = encs cs) : Conv.runesFrom s s.size 0 #[] = (cs.map fun (c : Nat) => Value.int .i32 (c : Int)).toArray := by
  rw [runes_from s cs _ 0 _ hg (by simpa using h) (by have := encs_length cs; rw [← h, sizeL] at this; exact this)]
  simp

theorem runesBytes_from : ∀ (cs : List Nat) (acc : ByteArray), (∀ c ∈ cs, good c) → ((cs.map fun (c : Nat) => (c : Int)).foldl (fun r n => r ++ Utf8.encode n) acc).data.toList = acc.data.toList ++ encs cs
  | [], acc, _ => by simp [encs_nil]
  | c :: cs, acc, hg => by
    simp only [List.map_cons, List.foldl_cons]
    rw [runesBytes_from cs _ (fun x hx => hg x (by simp [hx])), encs_cons, ← encode_eq c (hg c (by simp))]
    simp
theorem runesBytes_encs (cs : List Nat) (hg : ∀ c ∈ cs, good c) : (runesBytes (cs.map fun (c : Nat) => (c : Int))).data.toList = encs cs := by
  unfold runesBytes
  rw [runesBytes_from cs _ hg]
  simp

/-! ### where a text may be cut -/
def startB (b : UInt8) : Bool := b.toNat / 64 != 2
theorem enc_start (c : Nat) (h : good c) : ∀ (j : Nat) (b : UInt8), (enc c)[j]? = some b → (startB b = true ↔ j = 0) := by
  intro j b hb
  unfold good at h
  unfold startB
  unfold enc at hb
  split at hb
  · match j, hb with
    | 0, hb => simp at hb; subst hb; rw [b8_toNat _ (by omega)]; simp; omega
  split at hb
  · match j, hb with
    | 0, hb => simp at hb; subst hb; rw [b8_toNat _ (by omega)]; simp; omega
    | 1, hb => simp at hb; subst hb; rw [b8_toNat _ (by omega)]; simp; omega
  split at hb
  · match j, hb with
    | 0, hb => simp at hb; subst hb; rw [b8_toNat _ (by omega)]; simp; omega
    | 1, hb => simp at hb; subst hb; rw [b8_toNat _ (by omega)]; simp; omega
    | 2, hb => simp at hb; subst hb; rw [b8_toNat _ (by omega)]; simp; omega
  · match j, hb with
    | 0, hb => simp at hb; subst hb; rw [b8_toNat _ (by omega)]; simp; omega
    | 1, hb => simp at hb; subst hb; rw [b8_toNat _ (by omega)]; simp; omega
    | 2, hb => simp at hb; subst hb; rw [b8_toNat _ (by omega)]; simp; omega
    | 3, hb => simp at hb; subst hb; rw [b8_toNat _ (by omega)]; simp; omega

/-- At a byte that may begin a letter the text is cut between letters. -/
theorem cut_encs : ∀ (cs : List Nat) (n : Nat) (b : UInt8), (∀ c ∈ cs, good c) → (encs cs)[n]? = some b → startB b = true → ∃ k, k ≤ cs.length ∧ (encs cs).take n = encs (cs.take k)
  | [], n, b, _, h, _ => by simp [encs_nil] at h
  | c :: cs, n, b, hg, h, hs => by
    rw [encs_cons] at h ⊢
    by_cases hn : n < (enc c).length
    · rw [List.getElem?_append_left hn] at h
      have : n = 0 := (enc_start c (hg c (by simp)) n b h).1 hs
      subst this
      exact ⟨0, by omega, by simp [encs_nil]⟩
    · rw [List.getElem?_append_right (by omega)] at h
      obtain ⟨k, hk, he⟩ := cut_encs cs (n - (enc c).length) b (fun x hx => hg x (by simp [hx])) h hs
      refine ⟨k + 1, by simp; omega, ?_⟩
      rw [List.take_append, List.take_of_length_le (by omega), he]
      simp [encs_cons]
/-- The first byte of what is encoded may begin a letter. -/
theorem start_first (cs : List Nat) (hg : ∀ c ∈ cs, good c) (b : UInt8) (h : (encs cs)[0]? = some b) : startB b = true := by
  cases cs with
  | nil => simp [encs_nil] at h
  | cons c cs =>
    rw [encs_cons, List.getElem?_append_left (by have := (enc_pos c).1; omega)] at h
    exact (enc_start c (hg c (by simp)) 0 b h).2 rfl
end Go.Proofs.YtiobdkibbhpojaaDoor.Utf
