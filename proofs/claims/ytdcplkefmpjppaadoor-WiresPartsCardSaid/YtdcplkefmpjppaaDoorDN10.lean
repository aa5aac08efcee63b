/- Numbers in groups of seven bits: plain. -/
import Derived.Test.YtdcplkefmpjppaaDoorDT3
import Derived.Test.YtdcplkefmpjppaaDoorSwD
set_option linter.unusedVariables false
set_option linter.unusedSimpArgs false
namespace Go.Proofs.YtdcplkefmpjppaaDoor.GG
open Go.RowKit Go.Sw

theorem data_eq {u w : ByteArray} (h : u.data.toList = w.data.toList) : u = w:=ByteArray.ext (Array.ext' h)
def numB (n : Nat) : List UInt8:=if h : 128 ≤ n then UInt8.ofNat (n % 128 + 128) :: numB (n / 128) else [UInt8.ofNat n]
termination_by n
decreasing_by omega
theorem numB_big {n : Nat} (h : 128 ≤ n) : numB n = UInt8.ofNat (n % 128 + 128) :: numB (n / 128):=by
 rw [numB,dif_pos h]
theorem numB_small {n : Nat} (h : n < 128) : numB n = [UInt8.ofNat n]:=by
 rw [numB,dif_neg (by omega)]
theorem u8_toNat {n : Nat} (h : n < 256) : (UInt8.ofNat n).toNat = n:=by
 rw [UInt8.toNat_ofNat'];exact Nat.mod_eq_of_lt h
theorem numB_pos (n : Nat) : 0 < (numB n).length:=by
 by_cases h : 128 ≤ n
 · rw [numB_big h];simp
 · rw [numB_small (by omega)];simp
theorem numB_len (n : Nat) : ∀ k,n < 128 ^ (k + 1) → (numB n).length ≤ k + 1:=by
 intro k
 induction k generalizing n with
 | zero=>intro h;rw [numB_small (by simpa using h)];simp
 | succ k ih =>
  intro h
  by_cases h1 : 128 ≤ n
  · rw [numB_big h1,List.length_cons]
    have:=ih (n / 128) (by rw [Nat.pow_succ] at h;exact Nat.div_lt_of_lt_mul (by rw [Nat.mul_comm];exact h))
    omega
  · rw [numB_small (by omega)];simp
theorem numB_len10 {n : Nat} (h : n < 2 ^ 64) : (numB n).length ≤ 10:=numB_len n 9 (by omega)
theorem numB_inj (n : Nat) : ∀ (m : Nat) (r r' : List UInt8),numB n ++ r = numB m ++ r' → n = m ∧ r = r':=by
 induction n using Nat.strongRecOn with
 | _ n ih =>
  intro m r r' h
  by_cases h1 : 128 ≤ n
  · rw [numB_big h1] at h
    by_cases h2 : 128 ≤ m
    · rw [numB_big h2] at h
      simp only [List.cons_append,List.cons.injEq] at h
      have e1:=congrArg UInt8.toNat h.1
      rw [u8_toNat (by omega),u8_toNat (by omega)] at e1
      obtain ⟨e2,e3⟩:=ih (n / 128) (by omega) (m / 128) r r' h.2
      exact ⟨by omega,e3⟩
    · rw [numB_small (by omega : m < 128)] at h
      simp only [List.cons_append,List.nil_append,List.cons.injEq] at h
      have e1:=congrArg UInt8.toNat h.1
      rw [u8_toNat (by omega),u8_toNat (by omega)] at e1
      omega
  · rw [numB_small (by omega : n < 128)] at h
    by_cases h2 : 128 ≤ m
    · rw [numB_big h2] at h
      simp only [List.cons_append,List.nil_append,List.cons.injEq] at h
      have e1:=congrArg UInt8.toNat h.1
      rw [u8_toNat (by omega),u8_toNat (by omega)] at e1
      omega
    · rw [numB_small (by omega : m < 128)] at h
      simp only [List.cons_append,List.nil_append,List.cons.injEq] at h
      have e1:=congrArg UInt8.toNat h.1
      rw [u8_toNat (by omega),u8_toNat (by omega)] at e1
      exact ⟨e1,h.2⟩
inductive Rn where
 | ok (n b : Nat)
 | no (p b : Nat)
def numO (s : ByteArray) (fr : Nat) : Nat → Nat → Nat → Nat → Rn
 | 0,k,n,a=>.no fr a
 | f + 1,k,n,a=>if a < s.size then
     (if k = 9 ∧ 1 < atS s a then .no fr (a + 1)
     else if atS s a < 128 then (if atS s a = 0 ∧ 0 < k then .no fr (a + 1) else .ok (n + atS s a * 128 ^ k) (a + 1))
     else numO s fr f (k + 1) (n + (atS s a % 128) * 128 ^ k) (a + 1))
  else .no a a
theorem atS_lt (s : ByteArray) (a : Nat) : atS s a < 256:=UInt8.toNat_lt _
theorem atS_u8 (s : ByteArray) (a : Nat) : UInt8.ofNat (atS s a) = s.data.toList.getD a 0:=by
 apply UInt8.toNat_inj.1
 rw [u8_toNat (atS_lt s a)]
theorem numO_ok {s : ByteArray} {fr : Nat} : ∀ (f k n a m b : Nat),f + k = 10 → n < 128 ^ k → numO s fr f k n a = .ok m b →
 a < b ∧ b ≤ s.size ∧ m < 2 ^ 64 ∧ ∃ q,m = n + q * 128 ^ k ∧ (0 < k → 0 < q) ∧ s.data.toList.drop a = numB q ++ s.data.toList.drop b
 | 0,k,n,a,m,b,hf,hn,h=>by unfold numO at h;cases h
 | f + 1, k, n, a,m,b,hf,hn,h=>by
  unfold numO at h
  by_cases ha : a < s.size
  · rw [if_pos ha] at h
    have hd:=drop_at s a ha
    have hc:=atS_lt s a
    have hu:=atS_u8 s a
    generalize hC : atS s a = c at *
    rw [← hu] at hd
    by_cases h9 : k = 9 ∧ 1 < c
    · rw [if_pos h9] at h;cases h
    · rw [if_neg h9] at h
      by_cases h128 : c < 128
      · rw [if_pos h128] at h
        by_cases h00 : c = 0 ∧ 0 < k
        · rw [if_pos h00] at h;cases h
        · rw [if_neg h00] at h
          simp only [Rn.ok.injEq] at h
          obtain ⟨rfl,rfl⟩:=h
          refine ⟨by omega,by omega,?_,c,rfl,fun hk=>by omega,?_⟩
          · have hk : k ≤ 9:=by omega
            by_cases hk9 : k = 9
            · subst hk9
              have : c ≤ 1:=by omega
              have hp : (128 : Nat) ^ 9 = 9223372036854775808:=by decide
              rw [hp] at hn ⊢
              have : c * 9223372036854775808 ≤ 1 * 9223372036854775808:=Nat.mul_le_mul_right _ this
              omega
            · have h1 : c * 128 ^ k ≤ 127 * 128 ^ k:=Nat.mul_le_mul_right _ (by omega)
              have h2 : (128 : Nat) ^ (k + 1) ≤ 128 ^ 9:=Nat.pow_le_pow_right (by omega) (by omega)
              rw [Nat.pow_succ] at h2
              have hp : (128 : Nat) ^ 9 = 9223372036854775808:=by decide
              omega
          · rw [hd,numB_small h128];rfl
      · rw [if_neg h128] at h
        have hk8 : k ≤ 8 ∨ k = 9:=by omega
        rcases hk8 with hk8 | rfl
        · have hpos : 0 < 128 ^ k:=Nat.pow_pos (by omega)
          obtain ⟨g1,g2,g3,q,g4,g5,g6⟩:=numO_ok f (k + 1) _ (a + 1) m b (by omega) (by
           have h1 : (c % 128) * 128 ^ k ≤ 127 * 128 ^ k:=Nat.mul_le_mul_right _ (by omega)
           rw [Nat.pow_succ];omega) h
          have hq:=g5 (by omega)
          refine ⟨by omega,g2,g3,c % 128 + 128 * q,?_,fun _=>by omega,?_⟩
          · rw [g4,Nat.pow_succ,Nat.add_mul,Nat.add_assoc]
            congr 2
            rw [Nat.mul_comm (128 ^ k) 128, ← Nat.mul_assoc,Nat.mul_comm q 128]
          · rw [hd,g6,numB_big (n:=c % 128 + 128 * q) (by omega)]
            rw [show (c % 128 + 128 * q) % 128 + 128 = c by omega,show (c % 128 + 128 * q) / 128 = q by omega]
            rfl
        · omega
  · rw [if_neg ha] at h;cases h
theorem numO_back {s : ByteArray} {fr : Nat} : ∀ (f k n a q : Nat) (rest : List UInt8),f + k = 10 → n < 128 ^ k → (0 < k → 0 < q) → n + q * 128 ^ k < 2 ^ 64 → s.data.toList.drop a = numB q ++ rest →
 numO s fr f k n a = .ok (n + q * 128 ^ k) (a + (numB q).length)
 | 0,k,n,a,q,rest,hf,hn,hq,hb,hd=>by
  exfalso
  obtain rfl : k = 10:=by omega
  have:=hq (by omega)
  have hp : (128 : Nat) ^ 10 = 1180591620717411303424:=by decide
  rw [hp] at hb
  have : 1 * 1180591620717411303424 ≤ q * 1180591620717411303424:=Nat.mul_le_mul_right _ this
  omega
 | f + 1, k,n,a,q,rest,hf,hn,hq,hb,hd=>by
  have ha : a < s.size:=by
   rcases Nat.lt_or_ge a s.size with h | h
   · exact h
   · rw [List.drop_of_length_le (by rw [sizeL];exact h)] at hd
     have:=numB_pos q
     have e:=congrArg List.length hd
     simp at e
     omega
  have hd2:=drop_at s a ha
  unfold numO
  rw [if_pos ha]
  have hp9 : (128 : Nat) ^ 9 = 9223372036854775808:=by decide
  by_cases h1 : 128 ≤ q
  · rw [numB_big h1] at hd ⊢
    rw [hd2] at hd
    simp only [List.cons_append,List.cons.injEq] at hd
    have hc : atS s a = q % 128 + 128:=by
     have:=congrArg UInt8.toNat hd.1
     rwa [u8_toNat (by omega)] at this
    have hk : k ≤ 8:=by
     rcases Nat.lt_or_ge k 9 with h | h
     · omega
     · exfalso
       obtain rfl : k = 9:=by omega
       rw [hp9] at hb
       have : 128 * 9223372036854775808 ≤ q * 9223372036854775808:=Nat.mul_le_mul_right _ h1
       omega
    rw [hc,if_neg (by omega),if_neg (by omega)]
    have e : (q % 128 + 128) % 128 = q % 128:=by omega
    rw [e]
    have hm : n + q * 128 ^ k = n + q % 128 * 128 ^ k + q / 128 * 128 ^ (k + 1):=by
     rw [Nat.pow_succ,Nat.add_assoc,Nat.mul_comm (128 ^ k) 128, ← Nat.mul_assoc, ← Nat.add_mul]
     congr 2
     omega
    have hlt : n + q % 128 * 128 ^ k < 128 ^ (k + 1):=by
     have h1 : (q % 128) * 128 ^ k ≤ 127 * 128 ^ k:=Nat.mul_le_mul_right _ (by omega)
     rw [Nat.pow_succ];omega
    have:=numO_back (s:=s) (fr:=fr) f (k + 1) (n + q % 128 * 128 ^ k) (a + 1) (q / 128) rest (by omega) hlt (fun _=>by omega) (by rw [← hm];exact hb) hd.2
    rw [this,hm,List.length_cons]
    congr 1
    omega
  · rw [numB_small (by omega)] at hd ⊢
    rw [hd2] at hd
    simp only [List.cons_append,List.nil_append,List.cons.injEq] at hd
    have hc : atS s a = q:=by
     have:=congrArg UInt8.toNat hd.1
     rwa [u8_toNat (by omega)] at this
    rw [hc,if_neg,if_pos (by omega),if_neg (by omega)]
    · simp
    · rintro ⟨rfl,h2⟩
      rw [hp9] at hb
      have : 2 * 9223372036854775808 ≤ q * 9223372036854775808:=Nat.mul_le_mul_right _ h2
      omega
theorem numO_no {s : ByteArray} {fr : Nat} (hfr : fr ≤ s.size) : ∀ (f k n a p b : Nat),a ≤ s.size → numO s fr f k n a = .no p b → p ≤ s.size ∧ b ≤ s.size
 | 0,k,n,a,p,b,ha,h=>by
  unfold numO at h
  simp only [Rn.no.injEq] at h
  omega
 | f + 1, k,n,a,p,b,ha,h=>by
  unfold numO at h
  split at h
  · split at h
    · simp only [Rn.no.injEq] at h;omega
    · split at h
      · split at h
        · simp only [Rn.no.injEq] at h;omega
        · cases h
      · exact numO_no hfr f _ _ _ p b (by omega) h
  · simp only [Rn.no.injEq] at h;omega
def txtB (w : ByteArray) : List UInt8:=numB w.size ++ w.data.toList
inductive Rx where
 | ok (w : ByteArray) (b : Nat)
 | no (p b : Nat)
def txtO (s : ByteArray) (a : Nat) : Rx:=match numO s a 10 0 0 a with
 | .no p b=>.no p b
 | .ok n b=>if s.size - b < n then .no a b else .ok (s.extract b (b + n)) (b + n)
theorem ext_list (s : ByteArray) (b n : Nat) (h : b + n ≤ s.size) : (s.extract b (b + n)).data.toList = (s.data.toList.drop b).take n:=by
 rw [Lib.extract_data,Nat.add_sub_cancel_left]
theorem txtO_ok {s : ByteArray} {a : Nat} {w : ByteArray} {b : Nat} (hs : s.size < 2 ^ 63) (h : txtO s a = .ok w b) : a < b ∧ b ≤ s.size ∧ s.data.toList.drop a = txtB w ++ s.data.toList.drop b:=by
 unfold txtO at h
 cases hn : numO s a 10 0 0 a with
 | no p b'=>rw [hn] at h;cases h
 | ok n b' =>
  rw [hn] at h
  obtain ⟨h1,h2,h3,q,h4, -,h6⟩:=numO_ok 10 0 0 a n b' rfl (by decide) hn
  simp only [Nat.zero_add,Nat.pow_zero,Nat.mul_one] at h4
  subst h4
  simp only at h
  by_cases hl : s.size - b' < n
  · rw [if_pos hl] at h;cases h
  · rw [if_neg hl] at h
    simp only [Rx.ok.injEq] at h
    obtain ⟨rfl,rfl⟩:=h
    have hw : (s.extract b' (b' + n)).size = n:=by
     have:=congrArg List.length (ext_list s b' n (by omega))
     rw [sizeL,List.length_take,List.length_drop,sizeL] at this
     omega
    refine ⟨by omega,by omega,?_⟩
    rw [txtB,hw,ext_list s b' n (by omega),h6,List.append_assoc, ← List.drop_drop,List.take_append_drop]
theorem txtO_back {s : ByteArray} {a : Nat} {w : ByteArray} {rest : List UInt8} (hs : s.size < 2 ^ 63) (hd : s.data.toList.drop a = txtB w ++ rest) : txtO s a = .ok w (a + (txtB w).length):=by
 have ha : a + (txtB w).length ≤ s.size:=by
  have h0 : (txtB w).length + rest.length = s.size - a:=by
   have:=congrArg List.length hd
   rw [List.length_drop,sizeL,List.length_append] at this
   omega
  have : 0 < (txtB w).length:=by
   unfold txtB
   rw [List.length_append]
   have:=numB_pos w.size
   omega
  omega
 unfold txtB at hd ha
 rw [List.append_assoc] at hd
 rw [List.length_append,sizeL] at ha
 have hb:=numO_back (s:=s) (fr:=a) 10 0 0 a w.size _ rfl (by decide) (fun h=>absurd h (by decide)) (by simp only [Nat.pow_zero,Nat.mul_one];omega) hd
 unfold txtO
 rw [hb]
 simp only [Nat.zero_add,Nat.pow_zero,Nat.mul_one]
 rw [if_neg (by omega)]
 have he : s.extract (a + (numB w.size).length) (a + (numB w.size).length + w.size) = w:=by
  apply data_eq
  rw [ext_list s _ _ (by omega), ← List.drop_drop,hd,List.drop_left]
  exact List.take_left
 rw [he,txtB,List.length_append,sizeL]
 congr 1
 omega
theorem txtO_no {s : ByteArray} {a p b : Nat} (ha : a ≤ s.size) (h : txtO s a = .no p b) : p ≤ s.size ∧ b ≤ s.size:=by
 unfold txtO at h
 cases hn : numO s a 10 0 0 a with
 | no p' b' =>
  rw [hn] at h
  simp only [Rx.no.injEq] at h
  obtain ⟨rfl,rfl⟩:=h
  exact numO_no ha 10 0 0 a _ _ ha hn
 | ok n b' =>
  rw [hn] at h
  obtain ⟨h1,h2, -⟩:=numO_ok 10 0 0 a n b' rfl (by decide) hn
  simp only at h
  split at h
  · simp only [Rx.no.injEq] at h;omega
  · cases h
end Go.Proofs.YtdcplkefmpjppaaDoor.GG
