/- comply.stuck as a plain function; its pairs as keys (turned from HP4). -/
import Derived.Test.YtgecnlcbdbaneaaDoorH26
import Derived.Laws.StructEq
import Derived.WideKeyRuns
set_option linter.unusedVariables false
set_option linter.unusedSimpArgs false
namespace Go.Proofs.YtgecnlcbdbaneaaDoor
open Go.RowKit Go.Sw Go.MapKept

abbrev Quc:=List (Pc × List ByteArray)
def hasC (p : Pc) (qu : Quc) : Bool:=qu.any fun q=>decide (p = q.1)
def addC (path : List ByteArray) (qu : Quc) (s : ByteArray × Pc) : Quc:=if hasC s.2 qu = true then qu else qu ++ [(s.2,path ++ [s.1])]
structure QC (n m : Nat) (qu : Quc) : Prop where
 nd : (qu.map (·.1)).Nodup
 r : ∀ q ∈ qu,(0 ≤ q.1.a ∧ q.1.a < (n : Int)) ∧ 0 ≤ q.1.b ∧ q.1.b < (m : Int)
 p : ∀ (i : Nat) (q : Pc × List ByteArray),qu[i]? = some q → q.2.length ≤ i
theorem hasC_mem {p : Pc} {qu : Quc} : hasC p qu = true ↔ p ∈ qu.map (·.1):=by
 simp only [hasC,List.any_eq_true,decide_eq_true_iff,List.mem_map]
 constructor
 · rintro ⟨q,h1,h2⟩;exact ⟨q,h1,h2.symm⟩
 · rintro ⟨q,h1,h2⟩;exact ⟨q,h1,h2.symm⟩
theorem QC.add {n m : Nat} {qu : Quc} (h : QC n m qu) {at' : Nat} {path : List ByteArray} (hp : path.length ≤ at') (ha : at' < qu.length) {s : ByteArray × Pc} (hs : (0 ≤ s.2.a ∧ s.2.a < (n : Int)) ∧ 0 ≤ s.2.b ∧ s.2.b < (m : Int)) : QC n m (addC path qu s):=by
 unfold addC
 split
 · exact h
 · rename_i hx
   refine ⟨?_,fun q hq=>?_,fun i q hq=>?_⟩
   · rw [List.map_append]
     refine List.nodup_append.2 ⟨h.nd,by simp,fun a h1 b h2 hab=>?_⟩
     obtain rfl : b = s.2:=by simpa using h2
     exact hx (hasC_mem.2 (hab ▸ h1))
   · rcases List.mem_append.1 hq with hq | hq
     · exact h.r q hq
     · obtain rfl : q = (s.2,path ++ [s.1]):=by simpa using hq
       exact hs
   · by_cases hi : i < qu.length
     · rw [List.getElem?_append_left hi] at hq;exact h.p i q hq
     · rw [List.getElem?_append_right (by omega)] at hq
       by_cases h0 : i - qu.length = 0
       · rw [h0] at hq
         simp at hq
         subst hq
         simp;omega
       · rw [List.getElem?_eq_none (by simp;omega)] at hq;cases hq
theorem addC_len (path : List ByteArray) (qu : Quc) (s : ByteArray × Pc) : qu.length ≤ (addC path qu s).length:=by
 unfold addC
 split <;> simp
theorem QC.adds {n m : Nat} {at' : Nat} {path : List ByteArray} (hp : path.length ≤ at') : ∀ {l : List (ByteArray × Pc)} {qu : Quc},QC n m qu → at' < qu.length → (∀ s ∈ l,(0 ≤ s.2.a ∧ s.2.a < (n : Int)) ∧ 0 ≤ s.2.b ∧ s.2.b < (m : Int)) → QC n m (l.foldl (addC path) qu)
 | [],qu,h,_,_=>h
 | s :: l,qu,h,ha,hl=>QC.adds hp (l:=l) (h.add hp ha (hl s (by simp))) (by have:=addC_len path qu s;omega) fun x hx=>hl x (by simp [hx])
theorem QC.len {n m : Nat} {qu : Quc} (h : QC n m qu) : qu.length ≤ n * m:=by
 have:=pigeon (n * m) (qu.map fun q=>q.1.a * m + q.1.b) ?_ ?_
 · simpa using this
 · rw [List.Nodup,List.pairwise_map]
   have hn:=h.nd
   rw [List.Nodup,List.pairwise_map] at hn
   refine hn.imp_of_mem fun {x y} hx hy hne he=>hne ?_
   obtain ⟨⟨a0,a1⟩,b0,b1⟩:=h.r x hx
   obtain ⟨⟨c0,c1⟩,d0,d1⟩:=h.r y hy
   obtain ⟨⟨xa,xb⟩,xp⟩:=x
   obtain ⟨⟨ya,yb⟩,yp⟩:=y
   simp only at a0 a1 b0 b1 c0 c1 d0 d1 he ⊢
   have e : xa * m + xb = ya * m + yb:=he
   have e1 : xa = ya:=by
    have q1 : (xa * m + xb) / m = xa:=by rw [Int.add_comm,Int.add_mul_ediv_right _ _ (by omega),Int.ediv_eq_zero_of_lt b0 b1];omega
    have q2 : (ya * m + yb) / m = ya:=by rw [Int.add_comm,Int.add_mul_ediv_right _ _ (by omega),Int.ediv_eq_zero_of_lt d0 d1];omega
    rw [← q1, ← q2,e]
   subst e1
   have : xb = yb:=by omega
   rw [this]
 · intro v hv
   obtain ⟨x,hx,rfl⟩:=List.mem_map.1 hv
   obtain ⟨⟨a0,a1⟩,b0,b1⟩:=h.r x hx
   have h1 : 0 ≤ x.1.a * (m : Int):=Int.mul_nonneg a0 (by omega)
   have h2 : (x.1.a + 1) * (m : Int) ≤ (n : Int) * (m : Int):=Int.mul_le_mul_of_nonneg_right (by omega) (by omega)
   have h3 : ((n * m : Nat) : Int) = (n : Int) * (m : Int):=by push_cast;rfl
   rw [h3]
   rw [Int.add_mul] at h2
   omega
end Go.Proofs.YtgecnlcbdbaneaaDoor
