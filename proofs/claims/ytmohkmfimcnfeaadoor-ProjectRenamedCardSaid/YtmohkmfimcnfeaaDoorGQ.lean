/- Of a sorted list each text once: no two are the same; of what has other names there are no more: plain. -/
import Derived.Test.YtmohkmfimcnfeaaDoorGS
set_option linter.unusedVariables false
set_option linter.unusedSimpArgs false
namespace Go.Proofs.YtmohkmfimcnfeaaDoor
open Go.RowKit Go.Sw

theorem compact_nodup (ss : List (List UInt8)) (h : ss.Pairwise (· ≤ ·)) : (Lib.compact ss).Nodup:=by
 unfold Lib.compact Lib.compactUpTo List.Nodup
 rw [List.pairwise_map]
 have h1 : ((List.range ss.length).filter (Lib.keeps ss.toArray)).Pairwise (· < ·):=List.Pairwise.filter _ List.pairwise_lt_range
 refine List.Pairwise.imp_of_mem ?_ h1
 intro i j hi hj hlt he
 have hj2:=(List.mem_filter.1 hj).2
 have hjl:=List.mem_range.1 (List.mem_filter.1 hj).1
 have hk : ss.toArray[j]! ≠ ss.toArray[j - 1]! := by
  intro hq
  unfold Lib.keeps at hj2
  simp [hq] at hj2
  omega
 have hp:=List.pairwise_iff_getElem.1 h
 have e1 : ss.toArray[i]! = ss[i]:=by simp [show i < ss.length by omega]
 have e2 : ss.toArray[j]! = ss[j]:=by simp [hjl]
 have e3 : ss.toArray[j - 1]! = ss[j - 1]:=by simp [show j - 1 < ss.length by omega]
 rw [e1,e2] at he
 rw [e2,e3] at hk
 have g1 : ss[j - 1] ≤ ss[j]:=hp (j - 1) j (by omega) hjl (by omega)
 have g2 : ss[j] ≤ ss[j - 1]:=by
  rw [← he]
  by_cases hij : i = j - 1
  · subst hij;exact List.le_refl _
  · exact hp i (j - 1) (by omega) (by omega) (by omega)
 exact hk (List.le_antisymm g2 g1)
theorem sort_sorted (ss : List (List UInt8)) : (ss.mergeSort fun x y=>decide (x ≤ y)).Pairwise (· ≤ ·):=by
 have:=List.pairwise_mergeSort (le:=fun x y : List UInt8=>decide (x ≤ y)) (fun a b c h1 h2=>by simp at h1 h2 ⊢;exact List.le_trans h1 h2) (fun a b=>by simp;exact List.le_total a b) ss
 exact this.imp (fun h=>by simpa using h)
end Go.Proofs.YtmohkmfimcnfeaaDoor
