/- comply.stuck as a plain function; its pairs as keys (turned from HP4). -/
import Derived.Test.YtgecnlcbdbaneaaDoorHG
import Derived.Laws.StructEq
import Derived.WideKeyRuns
import Derived.Test.YtgecnlcbdbaneaaDoorHQ5
import Derived.Test.YtgecnlcbdbaneaaDoorTE
set_option linter.unusedVariables false
set_option linter.unusedSimpArgs false
namespace Go.Proofs.YtgecnlcbdbaneaaDoor
open Go.RowKit Go.Sw Go.MapKept

abbrev Quc:=List (Pc × List ByteArray)
def hasC (p : Pc) (qu : Quc) : Bool:=qu.any fun q=>decide (p = q.1)
def addC (path : List ByteArray) (qu : Quc) (s : ByteArray × Pc) : Quc:=if hasC s.2 qu = true then qu else qu ++ [(s.2,path ++ [s.1])]
structure QC (n m : Nat) (qu : Quc) : Prop where
 nd : (qu.map (·.1)).Nodup
 r : ∀ q ∈ qu,(0 ≤ q.1.a ∧ q.1.a < (n : Int)) ∧ 0 ≤ q.1.b ∧ q.1.b < (m : Int)
 p : ∀ (i : Nat) (q : Pc × List ByteArray),qu[i]? = some q → q.2.length ≤ i
theorem hasC_mem {p : Pc} {qu : Quc} : hasC p qu = true ↔ p ∈ qu.map (·.1):=by
 simp only [hasC,List.any_eq_true,decide_eq_true_iff,List.mem_map]
 constructor
 · rintro ⟨q,h1,h2⟩;exact ⟨q,h1,h2.symm⟩
 · rintro ⟨q,h1,h2⟩;exact ⟨q,h1,h2.symm⟩
theorem QC.add {n m : Nat} {qu : Quc} (h : QC n m qu) {at' : Nat} {path : List ByteArray} (hp : path.length ≤ at') (ha : at' < qu.length) {s : ByteArray × Pc} (hs : (0 ≤ s.2.a ∧ s.2.a < (n : Int)) ∧ 0 ≤ s.2.b ∧ s.2.b < (m : Int)) : QC n m (addC path qu s):=by
 unfold addC
 split
 · exact h
 · rename_i hx
   refine ⟨?_,fun q hq=>?_,fun i q hq=>?_⟩
   · rw [List.map_append]
     refine List.nodup_append.2 ⟨h.nd,by simp,fun a h1 b h2 hab=>?_⟩
     obtain rfl : b = s.2:=by simpa using h2
     exact hx (hasC_mem.2 (hab ▸ h1))
   · rcases List.mem_append.1 hq with hq | hq
     · exact h.r q hq
     · obtain rfl : q = (s.2,path ++ [s.1]):=by simpa using hq
       exact hs
   · by_cases hi : i < qu.length
     · rw [List.getElem?_append_left hi] at hq;exact h.p i q hq
     · rw [List.getElem?_append_right (by omega)] at hq
       by_cases h0 : i - qu.length = 0
       · rw [h0] at hq
         simp at hq
         subst hq
         simp;omega
       · rw [List.getElem?_eq_none (by simp;omega)] at hq;cases hq
theorem addC_len (path : List ByteArray) (qu : Quc) (s : ByteArray × Pc) : qu.length ≤ (addC path qu s).length:=by
 unfold addC
 split <;> simp
theorem QC.adds {n m : Nat} {at' : Nat} {path : List ByteArray} (hp : path.length ≤ at') : ∀ {l : List (ByteArray × Pc)} {qu : Quc},QC n m qu → at' < qu.length → (∀ s ∈ l,(0 ≤ s.2.a ∧ s.2.a < (n : Int)) ∧ 0 ≤ s.2.b ∧ s.2.b < (m : Int)) → QC n m (l.foldl (addC path) qu)
 | [],qu,h,_,_=>h
 | s :: l,qu,h,ha,hl=>QC.adds hp (l:=l) (h.add hp ha (hl s (by simp))) (by have:=addC_len path qu s;omega) fun x hx=>hl x (by simp [hx])
theorem QC.len {n m : Nat} {qu : Quc} (h : QC n m qu) : qu.length ≤ n * m:=by
 have:=pigeon (n * m) (qu.map fun q=>q.1.a * m + q.1.b) ?_ ?_
 · simpa using this
 · rw [List.Nodup,List.pairwise_map]
   have hn:=h.nd
   rw [List.Nodup,List.pairwise_map] at hn
   refine hn.imp_of_mem fun {x y} hx hy hne he=>hne ?_
   obtain ⟨⟨a0,a1⟩,b0,b1⟩:=h.r x hx
   obtain ⟨⟨c0,c1⟩,d0,d1⟩:=h.r y hy
   obtain ⟨⟨xa,xb⟩,xp⟩:=x
   obtain ⟨⟨ya,yb⟩,yp⟩:=y
   simp only at a0 a1 b0 b1 c0 c1 d0 d1 he ⊢
   have e : xa * m + xb = ya * m + yb:=he
   have e1 : xa = ya:=by
    have q1 : (xa * m + xb) / m = xa:=by rw [Int.add_comm,Int.add_mul_ediv_right _ _ (by omega),Int.ediv_eq_zero_of_lt b0 b1];omega
    have q2 : (ya * m + yb) / m = ya:=by rw [Int.add_comm,Int.add_mul_ediv_right _ _ (by omega),Int.ediv_eq_zero_of_lt d0 d1];omega
    rw [← q1, ← q2,e]
   subst e1
   have : xb = yb:=by omega
   rw [this]
 · intro v hv
   obtain ⟨x,hx,rfl⟩:=List.mem_map.1 hv
   obtain ⟨⟨a0,a1⟩,b0,b1⟩:=h.r x hx
   have h1 : 0 ≤ x.1.a * (m : Int):=Int.mul_nonneg a0 (by omega)
   have h2 : (x.1.a + 1) * (m : Int) ≤ (n : Int) * (m : Int):=Int.mul_le_mul_of_nonneg_right (by omega) (by omega)
   have h3 : ((n * m : Nat) : Int) = (n : Int) * (m : Int):=by push_cast;rfl
   rw [h3]
   rw [Int.add_mul] at h2
   omega
end Go.Proofs.YtgecnlcbdbaneaaDoor
/- comply.stuck; a symbolic walk (turned from H8). -/
-- TYPESB
namespace Go.Proofs.YtgecnlcbdbaneaaDoor
open Go.RowKit Go.Sw

end Go.Proofs.YtgecnlcbdbaneaaDoor
/- comply.of, Do, the law ComplyBelow; a symbolic walk. -/
-- TYPESB
namespace Go.Proofs.YtgecnlcbdbaneaaDoor
open Go.RowKit Go.Sw

theorem dG_gd {x : Tp} (h : tCheck x = 0) : Gd (dG x):=⟨(dG_good h).1,by have:=(dG_good h).2.1;omega,(dG_good h).2.2.1,(dG_good h).2.2.2.1⟩
end Go.Proofs.YtgecnlcbdbaneaaDoor
/- Two get on just if the one's other end is below the other one: by trees. -/
namespace Go.Proofs.YtgecnlcbdbaneaaDoor
open Go.RowKit Go.Sw

theorem sub_iff {a b : List Nd} (ha : Gd a) (hb : Gd b) : subG a b = true ↔ ∀ n,subT n (obs a n 0) (obs b n 0):=by
 unfold subG
 rw [Option.isNone_iff_eq_none,why_iff ha.pos hb.pos ha.ok hb.ok]
end Go.Proofs.YtgecnlcbdbaneaaDoor
/- monitor.from: a graph from a node on: plain; a symbolic walk. -/
-- TYPESE
namespace Go.Proofs.YtgecnlcbdbaneaaDoor
open Go.RowKit Go.Sw

def upN (x : Nd) : Nd:=⟨x.k,x.so,x.ls,x.to.map (· + 1)⟩
def fromP (g : List Nd) (k : Int) : List Nd:=upN (gAt g k) :: g.map upN
theorem from_len (g : List Nd) (k : Int) : (fromP g k).length = g.length + 1:=by simp [fromP]
theorem from_at {g : List Nd} {i : Int} (k : Int) (h0 : 0 ≤ i) (h1 : i < (g.length : Int)) : gAt (fromP g k) (i + 1) = upN (gAt g i):=by
 have e : (i + 1).toNat = i.toNat + 1:=by omega
 have hl : i.toNat < g.length:=by omega
 unfold gAt fromP
 rw [e,List.getD_cons_succ,List.getD_eq_getElem?_getD,List.getD_eq_getElem?_getD,List.getElem?_map,List.getElem?_eq_getElem hl]
 rfl
theorem from_0 (g : List Nd) (k : Int) : gAt (fromP g k) 0 = upN (gAt g k):=rfl
theorem from_obs {g : List Nd} (Hg : Gd g) (k : Int) : ∀ (n : Nat) (i : Int),0 ≤ i → i < (g.length : Int) → obs (fromP g k) n (i + 1) = obs g n i
 | 0,_,_,_=>rfl
 | n + 1,i,h0,h1=>by
  rw [obs,obs,from_at k h0 h1]
  show Tr.nd _ _ _ ((((gAt g i).to).map (· + 1)).map (obs (fromP g k) n)) = _
  rw [List.map_map]
  refine congrArg _ (List.map_congr_left fun t ht=>?_)
  have hr:=(Hg.ok _ (gAt_mem h0 h1)).ok.r t ht
  exact from_obs Hg k n t hr.1 hr.2
theorem from_obs0 {g : List Nd} (Hg : Gd g) {k : Int} (h0 : 0 ≤ k) (h1 : k < (g.length : Int)) (n : Nat) : obs (fromP g k) n 0 = obs g n k:=by
 cases n with
 | zero=>rfl
 | succ n =>
  rw [obs,obs,from_0]
  show Tr.nd _ _ _ ((((gAt g k).to).map (· + 1)).map (obs (fromP g k) n)) = _
  rw [List.map_map]
  refine congrArg _ (List.map_congr_left fun t ht=>?_)
  have hr:=(Hg.ok _ (gAt_mem h0 h1)).ok.r t ht
  exact from_obs Hg k n t hr.1 hr.2
theorem up_good {g : List Nd} (Hg : Gd g) {x : Nd} (hx : x ∈ g) : NdG (g.length + 1) (upN x) ∧ shp (upN x).k (upN x).so (upN x).ls (upN x).to.length:=by
 have h:=Hg.ok x hx
 have hs:=Hg.sh x hx
 obtain ⟨⟨a1,a2,a3,a4,a5,a6⟩,⟨b1,b2,b3,b4⟩,c⟩:=h
 refine ⟨⟨⟨a1,a2,a3,a4,by simpa [upN] using a5,fun t ht=>?_⟩,⟨fun e=>by simpa [upN] using b1 e,fun e=>by simpa [upN] using b2 e,by simpa [upN] using b3,by simpa [upN] using b4⟩,c⟩,by simpa [upN] using hs⟩
 obtain ⟨s,hs,rfl⟩:=List.mem_map.1 ht
 have:=a6 s hs
 omega
theorem from_gd {g : List Nd} (Hg : Gd g) (h199 : g.length ≤ 199) {k : Int} (h0 : 0 ≤ k) (h1 : k < (g.length : Int)) : Gd (fromP g k):=by
 have hm : ∀ x ∈ fromP g k, ∃ y ∈ g,x = upN y:=fun x hx=>by
  rcases List.mem_cons.1 hx with rfl | hx
  · exact ⟨_,gAt_mem h0 h1,rfl⟩
  · obtain ⟨y,hy,rfl⟩:=List.mem_map.1 hx
    exact ⟨y,hy,rfl⟩
 refine ⟨by rw [from_len];omega,by rw [from_len];omega,fun x hx=>?_,fun x hx=>?_⟩
 · obtain ⟨y,hy,rfl⟩:=hm x hx
   rw [from_len]
   exact (up_good Hg hy).1
 · obtain ⟨y,hy,rfl⟩:=hm x hx
   exact (up_good Hg hy).2
end Go.Proofs.YtgecnlcbdbaneaaDoor
