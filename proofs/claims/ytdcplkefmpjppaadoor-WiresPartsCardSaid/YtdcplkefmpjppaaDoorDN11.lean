/- Operations on bits, in plain numbers. -/
import Derived.Test.YtdcplkefmpjppaaDoorDN10
import Derived.Test.YtdcplkefmpjppaaDoorDTE
set_option linter.unusedVariables false
set_option linter.unusedSimpArgs false
namespace Go.Proofs.YtdcplkefmpjppaaDoor.GG
open Go.RowKit Go.Sw

theorem wrap_u8 (m : Int) : IntKind.u8.wrap m = m % 256:=by
 unfold IntKind.wrap
 simp [IntKind.bits,IntKind.signed]
theorem wrap_u64 (m : Int) : IntKind.u64.wrap m = m % 18446744073709551616:=by
 unfold IntKind.wrap
 simp [IntKind.bits,IntKind.signed]
theorem or128_all : ∀ r : Fin 256,(BitVec.ofInt 8 ((r.val : Nat) : Int) ||| BitVec.ofInt 8 128).toNat = r.val % 128 + 128:=by decide +kernel
theorem and127_all : ∀ r : Fin 256,(BitVec.ofInt 8 ((r.val : Nat) : Int) &&& BitVec.ofInt 8 127).toNat = r.val % 128:=by decide +kernel
theorem or128 (m : Nat) : IntKind.u8.wrap ((BitVec.ofInt IntKind.u8.bits (IntKind.u8.wrap (m : Int)) ||| BitVec.ofInt IntKind.u8.bits 128).toNat : Nat) = ((UInt8.ofNat (m % 128 + 128)).toNat : Nat):=by
 have h:=or128_all ⟨m % 256,by omega⟩
 simp only at h
 rw [wrap_u8,wrap_u8,show IntKind.u8.bits = 8 from rfl,show ((m : Int) % 256) = ((m % 256 : Nat) : Int) by omega,h,u8_toNat (by omega)]
 omega
theorem and127 (c : Nat) (h : c < 256) : IntKind.u8.wrap ((BitVec.ofInt IntKind.u8.bits (c : Int) &&& BitVec.ofInt IntKind.u8.bits 127).toNat : Nat) = ((c % 128 : Nat) : Int):=by
 have h:=and127_all ⟨c,h⟩
 simp only at h
 rw [wrap_u8,show IntKind.u8.bits = 8 from rfl,h]
 omega
theorem ofInt_nat (n : Nat) (h : n < 18446744073709551616) : (BitVec.ofInt 64 (n : Int)).toNat = n:=by
 rw [BitVec.toNat_ofInt]
 have : ((n : Int) % ((2 ^ 64 : Nat) : Int)) = (n : Int):=Int.emod_eq_of_lt (by omega) (by simpa using (by omega : (n : Int) < 18446744073709551616))
 rw [this];rfl
theorem or_add {n c k : Nat} (h : n < 128 ^ k) (hb : n + c * 128 ^ k < 18446744073709551616) : IntKind.u64.wrap ((BitVec.ofInt IntKind.u64.bits (n : Int) ||| BitVec.ofInt IntKind.u64.bits ((c * 128 ^ k : Nat) : Int)).toNat : Nat) = ((n + c * 128 ^ k : Nat) : Int):=by
 have e : (128 : Nat) ^ k = 2 ^ (7 * k):=by rw [Nat.pow_mul]
 rw [show IntKind.u64.bits = 64 from rfl,BitVec.toNat_or,ofInt_nat n (by omega),ofInt_nat _ (by omega),wrap_u64]
 have h1 : n ||| c * 128 ^ k = n + c * 128 ^ k:=by
  rw [Nat.or_comm,e,Nat.mul_comm,Nat.add_comm]
  exact (Nat.two_pow_add_eq_or_of_lt (by rw [← e];exact h) c).symm
 rw [h1]
 omega
theorem shl_mul {c k : Nat} (hk : k ≤ 9) (hb : c * 128 ^ k < 18446744073709551616) : IntKind.u64.wrap ((c : Int) * 2 ^ min (7 * k) IntKind.u64.bits) = ((c * 128 ^ k : Nat) : Int):=by
 have e : (128 : Nat) ^ k = 2 ^ (7 * k):=by rw [Nat.pow_mul]
 rw [Nat.min_eq_left (by show 7 * k ≤ 64;omega),wrap_u64]
 have : (c : Int) * 2 ^ (7 * k) = ((c * 128 ^ k : Nat) : Int):=by rw [e];simp
 rw [this]
 omega
theorem shr7 (m : Nat) : ((m : Int)).fdiv (2 ^ min 7 IntKind.u64.bits) = ((m / 128 : Nat) : Int):=by
 rw [show min 7 IntKind.u64.bits = 7 from rfl,show ((2 : Int) ^ 7) = 128 by decide,Int.fdiv_eq_ediv_of_nonneg _ (by decide)]
 omega
theorem shr1 (m : Nat) : ((m : Int)).fdiv (2 ^ min 1 IntKind.u64.bits) = ((m / 2 : Nat) : Int):=by
 rw [show min 1 IntKind.u64.bits = 1 from rfl,show ((2 : Int) ^ 1) = 2 by decide,Int.fdiv_eq_ediv_of_nonneg _ (by decide)]
 omega
def zz (n : Int) : Nat:=if 0 ≤ n then (2 * n).toNat else (-2 * n - 1).toNat
def unzz (m : Nat) : Int:=if m % 2 = 0 then ((m / 2 : Nat) : Int) else -((m / 2 : Nat) : Int) - 1
theorem unzz_zz (n : Int) : unzz (zz n) = n:=by
 unfold unzz zz
 split <;> split <;> omega
theorem zz_unzz (m : Nat) : zz (unzz m) = m:=by
 unfold unzz zz
 split <;> split <;> omega
theorem wrap_i64 (m : Int) : IntKind.i64.wrap m = (m + 9223372036854775808) % 18446744073709551616 - 9223372036854775808:=by
 unfold IntKind.wrap
 simp [IntKind.bits,IntKind.signed,Int.bmod]
 split <;> omega
theorem xor0 (x : Int) : (BitVec.ofInt 64 x ^^^ BitVec.ofInt 64 0).toNat = (BitVec.ofInt 64 x).toNat:=by
 have : BitVec.ofInt 64 0 = 0#64:=rfl
 rw [this,BitVec.xor_zero]
theorem xor1 (x : Int) : (BitVec.ofInt 64 x ^^^ BitVec.ofInt 64 (-1)).toNat = 18446744073709551615 - (BitVec.ofInt 64 x).toNat:=by
 have : BitVec.ofInt 64 (-1) = BitVec.allOnes 64:=by decide
 rw [this,BitVec.xor_allOnes,BitVec.toNat_not]
theorem ofInt_mod (x : Int) : ((BitVec.ofInt 64 x).toNat : Int) = x % 18446744073709551616:=by
 rw [BitVec.toNat_ofInt]
 have h : 0 ≤ x % 18446744073709551616:=Int.emod_nonneg _ (by decide)
 show (((x % 18446744073709551616).toNat : Nat) : Int) = _
 omega
theorem zz_write {n : Int} (h1 : -9223372036854775808 ≤ n) (h2 : n < 9223372036854775808) :
 IntKind.u64.wrap (IntKind.i64.wrap ((BitVec.ofInt IntKind.i64.bits (IntKind.i64.wrap (n * 2 ^ min 1 IntKind.i64.bits)) ^^^ BitVec.ofInt IntKind.i64.bits (n.fdiv (2 ^ min 63 IntKind.i64.bits))).toNat : Nat)) = ((zz n : Nat) : Int) ∧ zz n < 18446744073709551616:=by
 rw [show IntKind.i64.bits = 64 from rfl,show min 1 64 = 1 from rfl,show min 63 64 = 63 from rfl,show ((2 : Int) ^ 1) = 2 by decide,show ((2 : Int) ^ 63) = 9223372036854775808 by decide,Int.fdiv_eq_ediv_of_nonneg _ (by decide)]
 have hm:=ofInt_mod (IntKind.i64.wrap (n * 2))
 have hx0:=xor0 (IntKind.i64.wrap (n * 2))
 have hx1:=xor1 (IntKind.i64.wrap (n * 2))
 rw [wrap_i64 (n * 2)] at hm hx0 hx1 ⊢
 unfold zz
 by_cases h0 : 0 ≤ n
 · rw [show n / 9223372036854775808 = 0 by omega,hx0,if_pos h0,wrap_u64,wrap_i64]
   omega
 · rw [show n / 9223372036854775808 = -1 by omega,hx1,if_neg h0,wrap_u64,wrap_i64]
   omega
theorem and1_u64 (m : Nat) (h : m < 18446744073709551616) : IntKind.u64.wrap ((BitVec.ofInt IntKind.u64.bits (m : Int) &&& BitVec.ofInt IntKind.u64.bits 1).toNat : Nat) = ((m % 2 : Nat) : Int):=by
 rw [show IntKind.u64.bits = 64 from rfl,BitVec.toNat_and,ofInt_nat m h,show (BitVec.ofInt 64 1).toNat = 1 by decide,Nat.and_one_is_mod,wrap_u64]
 omega
theorem zz_read {m : Nat} (h : m < 18446744073709551616) :
 IntKind.i64.wrap ((BitVec.ofInt IntKind.i64.bits (IntKind.i64.wrap ((m / 2 : Nat) : Int)) ^^^ BitVec.ofInt IntKind.i64.bits (IntKind.i64.wrap (0 - IntKind.i64.wrap ((m % 2 : Nat) : Int)))).toNat : Nat) = unzz m:=by
 rw [show IntKind.i64.bits = 64 from rfl]
 have hm:=ofInt_mod (IntKind.i64.wrap ((m / 2 : Nat) : Int))
 have hx0:=xor0 (IntKind.i64.wrap ((m / 2 : Nat) : Int))
 have hx1:=xor1 (IntKind.i64.wrap ((m / 2 : Nat) : Int))
 have e1 : IntKind.i64.wrap ((m / 2 : Nat) : Int) = ((m / 2 : Nat) : Int):=by rw [wrap_i64];omega
 rw [e1] at hm hx0 hx1 ⊢
 unfold unzz
 by_cases h0 : m % 2 = 0
 · rw [show IntKind.i64.wrap (0 - IntKind.i64.wrap ((m % 2 : Nat) : Int)) = 0 by rw [wrap_i64,wrap_i64];omega,hx0,if_pos h0,wrap_i64]
   omega
 · rw [show IntKind.i64.wrap (0 - IntKind.i64.wrap ((m % 2 : Nat) : Int)) = -1 by rw [wrap_i64,wrap_i64];omega,hx1,if_neg h0,wrap_i64]
   omega
theorem CVS : (∀ (k : IntKind) (n : Int),cnv Tryd.prog 3 5 (.d (.v (.int k n))) = some (.int .u8 (IntKind.u8.wrap n))) ∧ (∀ (k : IntKind) (n : Int),cnv Tryd.prog 2 5 (.d (.v (.int k n))) = some (.int .u8 (IntKind.u8.wrap n))) ∧ (∀ (k : IntKind) (n : Int),cnv Tryd.prog 2 97 (.d (.v (.int k n))) = some (.int .u64 (IntKind.u64.wrap n))) ∧ (∀ (k : IntKind) (n : Int),cnv Tryd.prog 3 97 (.d (.v (.int k n))) = some (.int .u64 (IntKind.u64.wrap n))) ∧ (∀ (k : IntKind) (n : Int),cnv Tryd.prog 97 5 (.d (.v (.int k n))) = some (.int .u8 (IntKind.u8.wrap n))) ∧ (∀ (k : IntKind) (n : Int),cnv Tryd.prog 5 3 (.d (.v (.int k n))) = some (.int .i64 (IntKind.i64.wrap n))) ∧ (∀ (k : IntKind) (n : Int),cnv Tryd.prog 97 2 (.d (.v (.int k n))) = some (.int .i64 (IntKind.i64.wrap n))) ∧ (∀ (k : IntKind) (n : Int),cnv Tryd.prog 5 2 (.d (.v (.int k n))) = some (.int .i64 (IntKind.i64.wrap n))) ∧ (∀ (k : IntKind) (n : Int),cnv Tryd.prog 5 97 (.d (.v (.int k n))) = some (.int .u64 (IntKind.u64.wrap n))) ∧ (∀ (k : IntKind) (n : Int),cnv Tryd.prog 97 3 (.d (.v (.int k n))) = some (.int .i64 (IntKind.i64.wrap n))):=⟨fun k n=>cnv.eq_1 _ _ _ _ _ _ _ un3 un5,fun k n=>cnv.eq_1 _ _ _ _ _ _ _ un2 un5,fun k n=>cnv.eq_1 _ _ _ _ _ _ _ un2 un97,fun k n=>cnv.eq_1 _ _ _ _ _ _ _ un3 un97,fun k n=>cnv.eq_1 _ _ _ _ _ _ _ un97 un5,fun k n=>cnv.eq_1 _ _ _ _ _ _ _ un5 un3,fun k n=>cnv.eq_1 _ _ _ _ _ _ _ un97 un2,fun k n=>cnv.eq_1 _ _ _ _ _ _ _ un5 un2,fun k n=>cnv.eq_1 _ _ _ _ _ _ _ un5 un97,fun k n=>cnv.eq_1 _ _ _ _ _ _ _ un97 un3⟩
end Go.Proofs.YtdcplkefmpjppaaDoor.GG
