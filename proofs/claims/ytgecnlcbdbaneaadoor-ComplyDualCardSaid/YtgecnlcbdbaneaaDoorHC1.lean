/- comply.stuck as a plain function; its pairs as keys (turned from HP4). -/
import Derived.Test.YtgecnlcbdbaneaaDoorH26
import Derived.Laws.StructEq
import Derived.WideKeyRuns
set_option linter.unusedVariables false
set_option linter.unusedSimpArgs false
namespace Go.Proofs.YtgecnlcbdbaneaaDoor
open Go.RowKit Go.Sw Go.MapKept

def cV (p : Pc) : Value:=.agg #[.int .i64 p.a,.int .i64 p.b]
set_option maxRecDepth 100000 in
theorem pc_eqIn (a b a' b' : Int) (w : World) : (Op.equalIn 10000 90 (.agg #[.int .i64 a,.int .i64 b]) (.agg #[.int .i64 a',.int .i64 b'])).run Tryd.prog w = .ok (a == a' && b == b') w:=by
  by_cases h1 : a = a'
  · by_cases h2 : b = b'
    · subst h1 h2;go_simp
    · go_simp
  · go_simp
set_option maxRecDepth 100000 in
theorem pc_check (p : Pc) (c : Bool) (w : World) : (Instr.checkKey c 10000 90 (cV p)).run Tryd.prog w = .ok () w:=by
  obtain ⟨a,b⟩:=p
  have h90 : Tryd.prog.underlying 90 = some (.struct (Tryd.prog.fieldsOf 90)):=by kernel_rfl
  have k1 : ∀ (n : Int) (w : World),(Instr.checkKey c 9999 3 (.int .i64 n)).run Tryd.prog w = .ok () w:=fun n w=>run_checkKey un3 (by simp [IsKey]) c 9998
  unfold cV Instr.checkKey
  go_simp
theorem keq_pc (p q : Pc) : keq (cV p) (cV q) = decide (p = q):=by
  obtain ⟨a,b⟩:=p
  obtain ⟨a',b'⟩:=q
  rw [Bool.eq_iff_iff,decide_eq_true_iff]
  simp only [cV,keq,keqL,kql,Pc.mk.injEq,if_true]
  by_cases h1 : a = a' <;> by_cases h2 : b = b' <;> simp [h1,h2]
theorem pc_find (p : Pc) : ∀ (M : List (Value × Value)) (i j : Nat) (w : World),(∀ q ∈ M, ∃ r,q.1 = cV r) → (Instr.findAsking 90 (cV p) (entsOf j M) i).run Tryd.prog w = .ok (findM (cV p) M i) w
  | [],i,j,w,_=>by simp [entsOf,Instr.findAsking,findM]
  | (k, v) :: M,i,j,w,h=>by
    obtain ⟨r,hr⟩:=h (k,v) (by simp)
    simp only at hr
    subst hr
    have ih:=pc_find p M (i + 1) (j + 1) w fun q hq=>h q (by simp [hq])
    have he : (Op.equal 90 (cV p) (cV r)).run Tryd.prog w = .ok (decide (p = r)) w:=by
      unfold Op.equal Op.maxDepth
      obtain ⟨a,b⟩:=p
      obtain ⟨a',b'⟩:=r
      simp only [cV]
      rw [pc_eqIn]
      congr 1
      rw [Bool.eq_iff_iff,decide_eq_true_iff]
      simp [and_assoc]
    simp only [entsOf,Instr.findAsking,Sem.run_bind,he,Result.andThen_ok,findM,keq_pc]
    cases decide (p = r) with
    | true=>simp
    | false=>simpa using ih
theorem keyOK_pc (p : Pc) (M : List (Value × Value)) (h : ∀ q ∈ M, ∃ r,q.1 = cV r) : KeyOK Tryd.prog 90 (cV p) M:=by
  refine ⟨fun w c=>pc_check p c w,fun w=>?_,fun w k' hk he=>?_⟩
  · rw [run_findKey_eq w (by kernel_rfl) (cV p) (entsOf 0 M)]
    exact pc_find p M 0 0 w h
  · obtain ⟨q,hq,rfl⟩:=List.mem_map.1 hk
    obtain ⟨r,hr⟩:=h q hq
    rw [hr,keq_pc,decide_eq_true_iff] at he
    rw [hr, ← he]
    have hs : Instr.sameBits 10000 (cV p) (cV p) = true:=by
      obtain ⟨a,b⟩:=p
      simp [cV,Instr.sameBits]
    simp [Instr.keyThatStays,hs]
abbrev Quc:=List (Pc × List ByteArray)
def mC (qu : Quc) : List (Value × Value):=qu.map fun q=>(cV q.1,.int .i64 1)
theorem mC_keys (qu : Quc) : ∀ q ∈ mC qu, ∃ r,q.1 = cV r:=fun q hq=>by
  obtain ⟨x, -,rfl⟩:=List.mem_map.1 hq
  exact ⟨x.1,rfl⟩
def hasC (p : Pc) (qu : Quc) : Bool:=qu.any fun q=>decide (p = q.1)
theorem find_mC (p : Pc) : ∀ (qu : Quc) (i : Nat),(hasC p qu = false → findM (cV p) (mC qu) i = none) ∧ (hasC p qu = true → ∃ j,findM (cV p) (mC qu) i = some (j,.int .i64 1))
  | [],i=>by simp [hasC,mC,findM]
  | q :: qu,i=>by
    have ih:=find_mC p qu (i + 1)
    simp only [mC,List.map_cons,findM,keq_pc,hasC,List.any_cons] at ih ⊢
    by_cases h : p = q.1
    · simp [h]
    · simp only [h,decide_false,Bool.false_or,cond_false]
      exact ih
theorem find_mC2 (p : Pc) (v : Value) : ∀ (qu : Quc) (i : Nat),hasC p qu = false → findM (cV p) (mC qu ++ [(cV p,v)]) i = some (i + qu.length,v)
  | [],i,_=>by simp [mC,findM,keq_pc]
  | q :: qu,i,h=>by
    simp only [hasC,List.any_cons,Bool.or_eq_false_iff] at h
    have ih:=find_mC2 p v qu (i + 1) h.2
    simp only [mC,List.map_cons,List.cons_append,findM,keq_pc,h.1,cond_false] at ih ⊢
    rw [ih,List.length_cons,show i + 1 + qu.length = i + (qu.length + 1) by omega]
def addC (path : List ByteArray) (qu : Quc) (s : ByteArray × Pc) : Quc:=if hasC s.2 qu = true then qu else qu ++ [(s.2,path ++ [s.1])]
def stuckF (g h : List Nd) : Nat → Nat → Quc → Option (List ByteArray)
  | 0,_,_=>none
  | f + 1,at',qu=>match qu[at']? with
    | none=>none
    | some (p,path)=>match meetsP g h p with
      | none=>some path
      | some l=>stuckF g h f (at' + 1) (l.foldl (addC path) qu)
def stuckP (g h : List Nd) : Option (List ByteArray):=stuckF g h (g.length * h.length + 1) 0 [(⟨0,0⟩,[])]
structure QC (n m : Nat) (qu : Quc) : Prop where
  nd : (qu.map (·.1)).Nodup
  r : ∀ q ∈ qu,(0 ≤ q.1.a ∧ q.1.a < (n : Int)) ∧ 0 ≤ q.1.b ∧ q.1.b < (m : Int)
  p : ∀ (i : Nat) (q : Pc × List ByteArray),qu[i]? = some q → q.2.length ≤ i
theorem hasC_mem {p : Pc} {qu : Quc} : hasC p qu = true ↔ p ∈ qu.map (·.1):=by
  simp only [hasC,List.any_eq_true,decide_eq_true_iff,List.mem_map]
  constructor
  · rintro ⟨q,h1,h2⟩;exact ⟨q,h1,h2.symm⟩
  · rintro ⟨q,h1,h2⟩;exact ⟨q,h1,h2.symm⟩
theorem QC.add {n m : Nat} {qu : Quc} (h : QC n m qu) {at' : Nat} {path : List ByteArray} (hp : path.length ≤ at') (ha : at' < qu.length) {s : ByteArray × Pc} (hs : (0 ≤ s.2.a ∧ s.2.a < (n : Int)) ∧ 0 ≤ s.2.b ∧ s.2.b < (m : Int)) : QC n m (addC path qu s):=by
  unfold addC
  split
  · exact h
  · rename_i hx
    refine ⟨?_,fun q hq=>?_,fun i q hq=>?_⟩
    · rw [List.map_append]
      refine List.nodup_append.2 ⟨h.nd,by simp,fun a h1 b h2 hab=>?_⟩
      obtain rfl : b = s.2:=by simpa using h2
      exact hx (hasC_mem.2 (hab ▸ h1))
    · rcases List.mem_append.1 hq with hq | hq
      · exact h.r q hq
      · obtain rfl : q = (s.2,path ++ [s.1]):=by simpa using hq
        exact hs
    · by_cases hi : i < qu.length
      · rw [List.getElem?_append_left hi] at hq;exact h.p i q hq
      · rw [List.getElem?_append_right (by omega)] at hq
        by_cases h0 : i - qu.length = 0
        · rw [h0] at hq
          simp at hq
          subst hq
          simp;omega
        · rw [List.getElem?_eq_none (by simp;omega)] at hq;cases hq
theorem addC_len (path : List ByteArray) (qu : Quc) (s : ByteArray × Pc) : qu.length ≤ (addC path qu s).length:=by
  unfold addC
  split <;> simp
theorem QC.adds {n m : Nat} {at' : Nat} {path : List ByteArray} (hp : path.length ≤ at') : ∀ {l : List (ByteArray × Pc)} {qu : Quc},QC n m qu → at' < qu.length → (∀ s ∈ l,(0 ≤ s.2.a ∧ s.2.a < (n : Int)) ∧ 0 ≤ s.2.b ∧ s.2.b < (m : Int)) → QC n m (l.foldl (addC path) qu)
  | [],qu,h,_,_=>h
  | s :: l,qu,h,ha,hl=>QC.adds hp (l:=l) (h.add hp ha (hl s (by simp))) (by have:=addC_len path qu s;omega) fun x hx=>hl x (by simp [hx])
theorem QC.len {n m : Nat} {qu : Quc} (h : QC n m qu) : qu.length ≤ n * m:=by
  have:=pigeon (n * m) (qu.map fun q=>q.1.a * m + q.1.b) ?_ ?_
  · simpa using this
  · rw [List.Nodup,List.pairwise_map]
    have hn:=h.nd
    rw [List.Nodup,List.pairwise_map] at hn
    refine hn.imp_of_mem fun {x y} hx hy hne he=>hne ?_
    obtain ⟨⟨a0,a1⟩,b0,b1⟩:=h.r x hx
    obtain ⟨⟨c0,c1⟩,d0,d1⟩:=h.r y hy
    obtain ⟨⟨xa,xb⟩,xp⟩:=x
    obtain ⟨⟨ya,yb⟩,yp⟩:=y
    simp only at a0 a1 b0 b1 c0 c1 d0 d1 he ⊢
    have e : xa * m + xb = ya * m + yb:=he
    have e1 : xa = ya:=by
      have q1 : (xa * m + xb) / m = xa:=by rw [Int.add_comm,Int.add_mul_ediv_right _ _ (by omega),Int.ediv_eq_zero_of_lt b0 b1];omega
      have q2 : (ya * m + yb) / m = ya:=by rw [Int.add_comm,Int.add_mul_ediv_right _ _ (by omega),Int.ediv_eq_zero_of_lt d0 d1];omega
      rw [← q1, ← q2,e]
    subst e1
    have : xb = yb:=by omega
    rw [this]
  · intro v hv
    obtain ⟨x,hx,rfl⟩:=List.mem_map.1 hv
    obtain ⟨⟨a0,a1⟩,b0,b1⟩:=h.r x hx
    have h1 : 0 ≤ x.1.a * (m : Int):=Int.mul_nonneg a0 (by omega)
    have h2 : (x.1.a + 1) * (m : Int) ≤ (n : Int) * (m : Int):=Int.mul_le_mul_of_nonneg_right (by omega) (by omega)
    have h3 : ((n * m : Nat) : Int) = (n : Int) * (m : Int):=by push_cast;rfl
    rw [h3]
    rw [Int.add_mul] at h2
    omega
end Go.Proofs.YtgecnlcbdbaneaaDoor
