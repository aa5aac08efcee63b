/- below.both's why as a plain function; pairs as keys. -/
import Derived.Test.YtgecnlcbdbaneaaDoorH7
import Derived.Laws.StructEq
import Derived.WideKeyRuns
set_option linter.unusedVariables false
set_option linter.unusedSimpArgs false
namespace Go.Proofs.YtgecnlcbdbaneaaDoor
open Go.RowKit Go.Sw Go.MapKept

def pV (p : Pr) : Value:=.agg #[.int .i64 p.a,.int .i64 p.b,.bool p.t]
set_option maxRecDepth 100000 in
theorem pair_eqIn (a b a' b' : Int) (t t' : Bool) (w : World) : (Op.equalIn 10000 128 (.agg #[.int .i64 a,.int .i64 b,.bool t]) (.agg #[.int .i64 a',.int .i64 b',.bool t'])).run Tryd.prog w = .ok (a == a' && (b == b' && t == t')) w:=by
 by_cases h1 : a = a'
 · by_cases h2 : b = b'
   · by_cases h3 : t = t'
     · subst h1 h2 h3;go_simp
     · cases t <;> cases t' <;> first | (exact absurd rfl h3) | go_simp
   · go_simp
 · go_simp
theorem un4b : Tryd.prog.underlying 4 = some .bool:=by kernel_rfl
set_option maxRecDepth 100000 in
theorem pair_check (p : Pr) (c : Bool) (w : World) : (Instr.checkKey c 10000 128 (pV p)).run Tryd.prog w = .ok () w:=by
 obtain ⟨a,b,t⟩:=p
 have h128 : Tryd.prog.underlying 128 = some (.struct (Tryd.prog.fieldsOf 128)):=by kernel_rfl
 have k1 : ∀ (n : Int) (w : World),(Instr.checkKey c 9999 3 (.int .i64 n)).run Tryd.prog w = .ok () w:=fun n w=>run_checkKey un3 (by simp [IsKey]) c 9998
 have k2 : ∀ (w : World),(Instr.checkKey c 9999 4 (.bool t)).run Tryd.prog w = .ok () w:=fun w=>run_checkKey un4b (by simp [IsKey]) c 9998
 unfold pV Instr.checkKey
 go_simp
theorem keq_pair (p q : Pr) : keq (pV p) (pV q) = decide (p = q):=by
 obtain ⟨a,b,t⟩:=p
 obtain ⟨a',b',t'⟩:=q
 rw [Bool.eq_iff_iff,decide_eq_true_iff]
 simp only [pV,keq,keqL,kql,Pr.mk.injEq,if_true]
 by_cases h1 : a = a' <;> by_cases h2 : b = b' <;> by_cases h3 : t = t' <;> simp [h1,h2,h3]
theorem pair_find (p : Pr) : ∀ (M : List (Value × Value)) (i j : Nat) (w : World),(∀ q ∈ M, ∃ r,q.1 = pV r) → (Instr.findAsking 128 (pV p) (entsOf j M) i).run Tryd.prog w = .ok (findM (pV p) M i) w
 | [],i,j,w,_=>by simp [entsOf,Instr.findAsking,findM]
 | (k, v) :: M,i,j,w,h=>by
  obtain ⟨r,hr⟩:=h (k,v) (by simp)
  simp only at hr
  subst hr
  have ih:=pair_find p M (i + 1) (j + 1) w fun q hq=>h q (by simp [hq])
  have he : (Op.equal 128 (pV p) (pV r)).run Tryd.prog w = .ok (decide (p = r)) w:=by
   unfold Op.equal Op.maxDepth
   obtain ⟨a,b,t⟩:=p
   obtain ⟨a',b',t'⟩:=r
   simp only [pV]
   rw [pair_eqIn]
   congr 1
   rw [Bool.eq_iff_iff,decide_eq_true_iff]
   simp [and_assoc]
  simp only [entsOf,Instr.findAsking,Sem.run_bind,he,Result.andThen_ok,findM,keq_pair]
  cases decide (p = r) with
  | true=>simp
  | false=>simpa using ih
theorem keyOK_pair (p : Pr) (M : List (Value × Value)) (h : ∀ q ∈ M, ∃ r,q.1 = pV r) : KeyOK Tryd.prog 128 (pV p) M:=by
 refine ⟨fun w c=>pair_check p c w,fun w=>?_,fun w k' hk he=>?_⟩
 · rw [run_findKey_eq w (by kernel_rfl) (pV p) (entsOf 0 M)]
   exact pair_find p M 0 0 w h
 · obtain ⟨q,hq,rfl⟩:=List.mem_map.1 hk
   obtain ⟨r,hr⟩:=h q hq
   rw [hr,keq_pair,decide_eq_true_iff] at he
   rw [hr, ← he]
   have hs : Instr.sameBits 10000 (pV p) (pV p) = true:=by
    obtain ⟨a,b,t⟩:=p
    simp [pV,Instr.sameBits]
   simp [Instr.keyThatStays,hs]
abbrev Qu:=List (Pr × List ByteArray)
def mQ (qu : Qu) : List (Value × Value):=qu.map fun q=>(pV q.1,.int .i64 1)
theorem mQ_keys (qu : Qu) : ∀ q ∈ mQ qu, ∃ r,q.1 = pV r:=fun q hq=>by
 obtain ⟨x, -,rfl⟩:=List.mem_map.1 hq
 exact ⟨x.1,rfl⟩
def hasQ (p : Pr) (qu : Qu) : Bool:=qu.any fun q=>decide (p = q.1)
theorem find_mQ (p : Pr) : ∀ (qu : Qu) (i : Nat),(hasQ p qu = false → findM (pV p) (mQ qu) i = none) ∧ (hasQ p qu = true → ∃ j,findM (pV p) (mQ qu) i = some (j,.int .i64 1))
 | [],i=>by simp [hasQ,mQ,findM]
 | q :: qu,i=>by
  have ih:=find_mQ p qu (i + 1)
  simp only [mQ,List.map_cons,findM,keq_pair,hasQ,List.any_cons] at ih ⊢
  by_cases h : p = q.1
  · simp [h]
  · simp only [h,decide_false,Bool.false_or,cond_false]
    exact ih
theorem find_mQ2 (p : Pr) (v : Value) : ∀ (qu : Qu) (i : Nat),hasQ p qu = false → findM (pV p) (mQ qu ++ [(pV p,v)]) i = some (i + qu.length,v)
 | [],i,_=>by simp [mQ,findM,keq_pair]
 | q :: qu,i,h=>by
  simp only [hasQ,List.any_cons,Bool.or_eq_false_iff] at h
  have ih:=find_mQ2 p v qu (i + 1) h.2
  simp only [mQ,List.map_cons,List.cons_append,findM,keq_pair,h.1,cond_false] at ih ⊢
  rw [ih,List.length_cons,show i + 1 + qu.length = i + (qu.length + 1) by omega]
def addQ (path : List ByteArray) (qu : Qu) (s : ByteArray × Pr) : Qu:=if hasQ s.2 qu = true then qu else qu ++ [(s.2,path ++ [s.1])]
def whyF (g h : List Nd) : Nat → Nat → Qu → Option (List ByteArray)
 | 0,_,_=>none
 | f + 1,at',qu=>match qu[at']? with
  | none=>none
  | some (p,path)=>match fitsP g h p with
   | none=>some path
   | some l=>whyF g h f (at' + 1) (l.foldl (addQ path) qu)
def whyP (g h : List Nd) : Option (List ByteArray):=whyF g h (2 * g.length * h.length + 1) 0 [(⟨0,0,false⟩,[])]
structure QI (n m : Nat) (qu : Qu) : Prop where
 nd : (qu.map (·.1)).Nodup
 r : ∀ q ∈ qu,(0 ≤ q.1.a ∧ q.1.a < (n : Int)) ∧ 0 ≤ q.1.b ∧ q.1.b < (m : Int)
 p : ∀ (i : Nat) (q : Pr × List ByteArray),qu[i]? = some q → q.2.length ≤ i
theorem has_mem {p : Pr} {qu : Qu} : hasQ p qu = true ↔ p ∈ qu.map (·.1):=by
 simp only [hasQ,List.any_eq_true,decide_eq_true_iff,List.mem_map]
 constructor
 · rintro ⟨q,h1,h2⟩;exact ⟨q,h1,h2.symm⟩
 · rintro ⟨q,h1,h2⟩;exact ⟨q,h1,h2.symm⟩
theorem QI.add {n m : Nat} {qu : Qu} (h : QI n m qu) {at' : Nat} {path : List ByteArray} (hp : path.length ≤ at') (ha : at' < qu.length) {s : ByteArray × Pr} (hs : (0 ≤ s.2.a ∧ s.2.a < (n : Int)) ∧ 0 ≤ s.2.b ∧ s.2.b < (m : Int)) : QI n m (addQ path qu s):=by
 unfold addQ
 split
 · exact h
 · rename_i hx
   refine ⟨?_,fun q hq=>?_,fun i q hq=>?_⟩
   · rw [List.map_append]
     refine List.nodup_append.2 ⟨h.nd,by simp,fun a h1 b h2 hab=>?_⟩
     obtain rfl : b = s.2:=by simpa using h2
     exact hx (has_mem.2 (hab ▸ h1))
   · rcases List.mem_append.1 hq with hq | hq
     · exact h.r q hq
     · obtain rfl : q = (s.2,path ++ [s.1]):=by simpa using hq
       exact hs
   · by_cases hi : i < qu.length
     · rw [List.getElem?_append_left hi] at hq;exact h.p i q hq
     · rw [List.getElem?_append_right (by omega)] at hq
       by_cases h0 : i - qu.length = 0
       · rw [h0] at hq
         simp at hq
         subst hq
         simp;omega
       · rw [List.getElem?_eq_none (by simp;omega)] at hq;cases hq
theorem addQ_len (path : List ByteArray) (qu : Qu) (s : ByteArray × Pr) : qu.length ≤ (addQ path qu s).length:=by
 unfold addQ
 split <;> simp
theorem QI.adds {n m : Nat} {at' : Nat} {path : List ByteArray} (hp : path.length ≤ at') : ∀ {l : List (ByteArray × Pr)} {qu : Qu},QI n m qu → at' < qu.length → (∀ s ∈ l,(0 ≤ s.2.a ∧ s.2.a < (n : Int)) ∧ 0 ≤ s.2.b ∧ s.2.b < (m : Int)) → QI n m (l.foldl (addQ path) qu)
 | [],qu,h,_,_=>h
 | s :: l,qu,h,ha,hl=>QI.adds hp (l:=l) (h.add hp ha (hl s (by simp))) (by have:=addQ_len path qu s;omega) fun x hx=>hl x (by simp [hx])
theorem QI.len {n m : Nat} {qu : Qu} (h : QI n m qu) : qu.length ≤ 2 * n * m:=by
 have:=pigeon (2 * n * m) (qu.map fun q=>(q.1.a * m + q.1.b) * 2 + (if q.1.t = true then 1 else 0)) ?_ ?_
 · simpa using this
 · rw [List.Nodup,List.pairwise_map]
   have hn:=h.nd
   rw [List.Nodup,List.pairwise_map] at hn
   refine hn.imp_of_mem fun {x y} hx hy hne he=>hne ?_
   obtain ⟨⟨a0,a1⟩,b0,b1⟩:=h.r x hx
   obtain ⟨⟨c0,c1⟩,d0,d1⟩:=h.r y hy
   obtain ⟨⟨xa,xb,xt⟩,xp⟩:=x
   obtain ⟨⟨ya,yb,yt⟩,yp⟩:=y
   simp only at a0 a1 b0 b1 c0 c1 d0 d1 he ⊢
   have ht : xt = yt:=by cases xt <;> cases yt <;> simp at he ⊢ <;> omega
   subst ht
   have e : xa * m + xb = ya * m + yb:=by omega
   have e1 : xa = ya:=by
    have q1 : (xa * m + xb) / m = xa:=by rw [Int.add_comm,Int.add_mul_ediv_right _ _ (by omega),Int.ediv_eq_zero_of_lt b0 b1];omega
    have q2 : (ya * m + yb) / m = ya:=by rw [Int.add_comm,Int.add_mul_ediv_right _ _ (by omega),Int.ediv_eq_zero_of_lt d0 d1];omega
    rw [← q1, ← q2,e]
   subst e1
   have : xb = yb:=by omega
   rw [this]
 · intro v hv
   obtain ⟨x,hx,rfl⟩:=List.mem_map.1 hv
   obtain ⟨⟨a0,a1⟩,b0,b1⟩:=h.r x hx
   have h1 : 0 ≤ x.1.a * (m : Int):=Int.mul_nonneg a0 (by omega)
   have h2 : (x.1.a + 1) * (m : Int) ≤ (n : Int) * (m : Int):=Int.mul_le_mul_of_nonneg_right (by omega) (by omega)
   have h3 : ((2 * n * m : Nat) : Int) = 2 * ((n : Int) * (m : Int)):=by push_cast;rw [Int.mul_assoc]
   rw [h3]
   rw [Int.add_mul] at h2
   split <;> omega
end Go.Proofs.YtgecnlcbdbaneaaDoor
