/- types' reader: blanks, signs, words; a symbolic walk. -/
-- TYPESA
import Derived.Test.YtlnmkdbcdcknjaaDoorU2
import Derived.Test.YtlnmkdbcdcknjaaDoorShelfX
set_option linter.unusedVariables false
set_option linter.unusedSimpArgs false
namespace Go.Proofs.YtlnmkdbcdcknjaaDoor.GG
open Go.RowKit Go.Sw

def trimLS (s : ByteArray) : ByteArray:=packS (Lib.trimLeftS s.data.toList abcS.data.toList)
theorem trimL_fn (Γ : Gl) (s : ByteArray) : DFn Tryd.prog Γ 78 [sD s,sD abcS] (sD (trimLS s)) :=
 dfn_of (by kernel_rfl) rfl rfl fun w h=>Tryd.strings_TrimLeft_ascii s abcS w (by decide) abc_ascii
theorem sizeL (s : ByteArray) : s.data.toList.length = s.size:=rfl
theorem drop_list (s : ByteArray) (j : Nat) : (s.extract j s.size).data.toList = s.data.toList.drop j:=by
 rw [Lib.extract_data]
 exact List.take_of_length_le (by rw [List.length_drop,sizeL];exact Nat.le_refl _)
def skipB : List UInt8 → Nat
 | []=>0
 | c :: l=>if c.toNat = 32 then skipB l + 1 else 0
theorem skipB_len : ∀ l,skipB l ≤ l.length
 | []=>Nat.le_refl _
 | c :: l=>by
  have:=skipB_len l
  unfold skipB
  split
  · simp only [List.length_cons];omega
  · exact Nat.zero_le _
theorem drop_at (s : ByteArray) (j : Nat) (h : j < s.size) : s.data.toList.drop j = s.data.toList.getD j 0 :: s.data.toList.drop (j + 1):=by
 have hl : j < s.data.toList.length:=by rw [sizeL];exact h
 have hz : j < s.data.size:=h
 rw [List.drop_eq_getElem_cons hl]
 simp only [List.getD,List.getElem?_eq_getElem hl,Option.getD_some]

abbrev rBox (s : ByteArray) (a : Nat) : St:=[(0,.cells [.d (sD s),.d (iD (a : Nat))])]
def wAt (s : ByteArray) (a : Nat) : Nat:=a + skipB (s.data.toList.drop a)
theorem wAt_in (s : ByteArray) (a : Nat) (ha : a ≤ s.size) : a ≤ wAt s a ∧ wAt s a ≤ s.size:=by
 unfold wAt
 have:=skipB_len (s.data.toList.drop a)
 rw [List.length_drop,sizeL] at this
 omega
abbrev atS (s : ByteArray) (t : Nat) : Nat:=(s.data.toList.getD t 0).toNat
abbrev cD (c : Nat) : D:=.v (.int .u8 (c : Nat))
def isB (s : ByteArray) (a : Nat) (c : Nat) : Bool:=if wAt s a < s.size then atS s (wAt s a) == c else false

def wordL (r : ByteArray) : ByteArray:=r.extract 0 (r.size - (trimLS r).size)
def wOf (s : ByteArray) (a : Nat) : ByteArray:=wordL (s.extract (wAt s a) s.size)

end Go.Proofs.YtlnmkdbcdcknjaaDoor.GG
