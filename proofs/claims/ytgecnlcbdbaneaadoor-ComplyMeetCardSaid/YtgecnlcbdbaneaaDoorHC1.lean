/- comply.stuck as a plain function; its pairs as keys (turned from HP4). -/
import Derived.Test.YtgecnlcbdbaneaaDoorH26
import Derived.Laws.StructEq
import Derived.WideKeyRuns
import Derived.Test.YtgecnlcbdbaneaaDoorKD1
import Derived.ChangeKeysEq
set_option linter.unusedVariables false
set_option linter.unusedSimpArgs false
namespace Go.Proofs.YtgecnlcbdbaneaaDoor
open Go.RowKit Go.Sw Go.MapKept
open _root_.Int renaming add_comm → zi, add_mul_ediv_right → zm, ediv_eq_zero_of_lt → zn

def cV (p : Pc) : Value:=.agg #[.int .i64 p.a,.int .i64 p.b]
set_option maxRecDepth 100000 in
theorem pc_eqIn (a b a' b' : Int) (w : World) : (Op.equalIn 10000 90 (.agg #[.int .i64 a,.int .i64 b]) (.agg #[.int .i64 a',.int .i64 b'])).run Tryd.prog w = .ok (a == a' && b == b') w:=by
 by_cases h1 : a = a'
 · by_cases h2 : b = b'
   · subst h1 h2;go_simp
   · go_simp
 · go_simp
set_option maxRecDepth 100000 in
theorem yp9 (p : Pc) (c : Bool) (w : World) : (Instr.checkKey c 10000 90 (cV p)).run Tryd.prog w = .ok () w:=by
 obtain ⟨a,b⟩:=p
 have h90 : Tryd.prog.underlying 90 = some (.struct (Tryd.prog.fieldsOf 90)):=by kernel_rfl
 have k1 : ∀ (n : Int) (w : World),(Instr.checkKey c 9999 3 (.int .i64 n)).run Tryd.prog w = .ok () w:=fun n w=>run_checkKey un3 (by simp [IsKey]) c 9998
 unfold cV Instr.checkKey
 go_simp
theorem xe6 (p q : Pc) : keq (cV p) (cV q) = decide (p = q):=by
 obtain ⟨a,b⟩:=p
 obtain ⟨a',b'⟩:=q
 rw [Bool.eq_iff_iff,decide_eq_true_iff]
 simp only [cV,keq,keqL,kql,Pc.mk.injEq,if_true]
 by_cases h1 : a = a' <;> by_cases h2 : b = b' <;> simp [h1,h2]
theorem yc8 (p : Pc) : ∀ (M : List (Value × Value)) (i j : Nat) (w : World),(∀ q ∈ M, ∃ r,q.1 = cV r) → (Instr.findAsking 90 (cV p) (qd8 j M) i).run Tryd.prog w = .ok (qe4 (cV p) M i) w
 | [],i,j,w,_=>by simp [qd8,Instr.findAsking,qe4]
 | (k, v) :: M,i,j,w,h=>by
  obtain ⟨r,hr⟩:=h (k,v) (by simp)
  simp only at hr
  subst hr
  have ih:=yc8 p M (i + 1) (j + 1) w fun q hq=>h q (by simp [hq])
  have he : (Op.equal 90 (cV p) (cV r)).run Tryd.prog w = .ok (decide (p = r)) w:=by
   unfold Op.equal Op.maxDepth
   obtain ⟨a,b⟩:=p
   obtain ⟨a',b'⟩:=r
   simp only [cV]
   rw [pc_eqIn]
   congr 1
   rw [Bool.eq_iff_iff,decide_eq_true_iff]
   simp [and_assoc]
  simp only [qd8,Instr.findAsking,Sem.run_bind,he,Result.andThen_ok,qe4,xe6]
  cases decide (p = r) with
  | true=>simp
  | false=>simpa using ih
theorem vx3 (p : Pc) (M : List (Value × Value)) (h : ∀ q ∈ M, ∃ r,q.1 = cV r) : vn4 Tryd.prog 90 (cV p) M:=by
 refine ⟨fun w c=>yp9 p c w,fun w=>?_,fun w k' hk he=>?_⟩
 · rw [run_findKey_eq w (by kernel_rfl) (cV p) (qd8 0 M)]
   exact yc8 p M 0 0 w h
 · obtain ⟨q,hq,rfl⟩:=List.mem_map.1 hk
   obtain ⟨r,hr⟩:=h q hq
   rw [hr,xe6,decide_eq_true_iff] at he
   rw [hr, ← he]
   have hs : Instr.sameBits 10000 (cV p) (cV p) = true:=by
    obtain ⟨a,b⟩:=p
    simp [cV,Instr.sameBits]
   simp [Instr.keyThatStays,hs]
abbrev Quc:=List (Pc × List ByteArray)
def mC (qu : Quc) : List (Value × Value):=qu.map fun q=>(cV q.1,.int .i64 1)
theorem yd4 (qu : Quc) : ∀ q ∈ mC qu, ∃ r,q.1 = cV r:=fun q hq=>by
 obtain ⟨x, -,rfl⟩:=List.mem_map.1 hq
 exact ⟨x.1,rfl⟩
def vo1 (p : Pc) (qu : Quc) : Bool:=qu.any fun q=>decide (p = q.1)
theorem yl8 (p : Pc) : ∀ (qu : Quc) (i : Nat),(vo1 p qu = false → qe4 (cV p) (mC qu) i = none) ∧ (vo1 p qu = true → ∃ j,qe4 (cV p) (mC qu) i = some (j,.int .i64 1))
 | [],i=>by simp [vo1,mC,qe4]
 | q :: qu,i=>by
  have ih:=yl8 p qu (i + 1)
  simp only [mC,List.map_cons,qe4,xe6,vo1,List.any_cons] at ih ⊢
  by_cases h : p = q.1
  · simp [h]
  · simp only [h,decide_false,Bool.false_or,cond_false]
    exact ih
theorem xo2 (p : Pc) (v : Value) : ∀ (qu : Quc) (i : Nat),vo1 p qu = false → qe4 (cV p) (mC qu ++ [(cV p,v)]) i = some (i + qu.length,v)
 | [],i,_=>by simp [mC,qe4,xe6]
 | q :: qu,i,h=>by
  simp only [vo1,List.any_cons,Bool.or_eq_false_iff] at h
  have ih:=xo2 p v qu (i + 1) h.2
  simp only [mC,List.map_cons,List.cons_append,qe4,xe6,h.1,cond_false] at ih ⊢
  rw [ih,List.length_cons,show i + 1 + qu.length = i + (qu.length + 1) by omega]
def qw7 (path : List ByteArray) (qu : Quc) (s : ByteArray × Pc) : Quc:=if vo1 s.2 qu = true then qu else qu ++ [(s.2,path ++ [s.1])]
def qz1 (g h : List Nd) : Nat → Nat → Quc → Option (List ByteArray)
 | 0,_,_=>none
 | f + 1,at',qu=>match qu[at']? with
  | none=>none
  | some (p,path)=>match qq0 g h p with
   | none=>some path
   | some l=>qz1 g h f (at' + 1) (l.foldl (qw7 path) qu)
def vg4 (g h : List Nd) : Option (List ByteArray):=qz1 g h (g.length * h.length + 1) 0 [(⟨0,0⟩,[])]
structure QC (n m : Nat) (qu : Quc) : Prop where
 nd : (qu.map (·.1)).Nodup
 r : ∀ q ∈ qu,(0 ≤ q.1.a ∧ q.1.a < (n : Int)) ∧ 0 ≤ q.1.b ∧ q.1.b < (m : Int)
 p : ∀ (i : Nat) (q : Pc × List ByteArray),qu[i]? = some q → q.2.length ≤ i
theorem qv2 {p : Pc} {qu : Quc} : vo1 p qu = true ↔ p ∈ qu.map (·.1):=by
 simp only [vo1,List.any_eq_true,decide_eq_true_iff,List.mem_map]
 constructor
 · rintro ⟨q,h1,h2⟩;exact ⟨q,h1,h2.symm⟩
 · rintro ⟨q,h1,h2⟩;exact ⟨q,h1,h2.symm⟩
theorem QC.add {n m : Nat} {qu : Quc} (h : QC n m qu) {at' : Nat} {path : List ByteArray} (hp : path.length ≤ at') (ha : at' < qu.length) {s : ByteArray × Pc} (hs : (0 ≤ s.2.a ∧ s.2.a < (n : Int)) ∧ 0 ≤ s.2.b ∧ s.2.b < (m : Int)) : QC n m (qw7 path qu s):=by
 unfold qw7
 split
 · exact h
 · rename_i hx
   refine ⟨?_,fun q hq=>?_,fun i q hq=>?_⟩
   · rw [List.map_append]
     refine List.nodup_append.2 ⟨h.nd,by simp,fun a h1 b h2 hab=>?_⟩
     obtain rfl : b = s.2:=by simpa using h2
     exact hx (qv2.2 (hab ▸ h1))
   · rcases List.mem_append.1 hq with hq | hq
     · exact h.r q hq
     · obtain rfl : q = (s.2,path ++ [s.1]):=by simpa using hq
       exact hs
   · by_cases hi : i < qu.length
     · rw [List.getElem?_append_left hi] at hq;exact h.p i q hq
     · rw [List.getElem?_append_right (by omega)] at hq
       by_cases h0 : i - qu.length = 0
       · rw [h0] at hq
         simp at hq
         subst hq
         simp;omega
       · rw [List.getElem?_eq_none (by simp;omega)] at hq;cases hq
theorem xr9 (path : List ByteArray) (qu : Quc) (s : ByteArray × Pc) : qu.length ≤ (qw7 path qu s).length:=by
 unfold qw7
 split <;> simp
theorem QC.adds {n m : Nat} {at' : Nat} {path : List ByteArray} (hp : path.length ≤ at') : ∀ {l : List (ByteArray × Pc)} {qu : Quc},QC n m qu → at' < qu.length → (∀ s ∈ l,(0 ≤ s.2.a ∧ s.2.a < (n : Int)) ∧ 0 ≤ s.2.b ∧ s.2.b < (m : Int)) → QC n m (l.foldl (qw7 path) qu)
 | [],qu,h,_,_=>h
 | s :: l,qu,h,ha,hl=>QC.adds hp (l:=l) (h.add hp ha (hl s (by simp))) (by have:=xr9 path qu s;omega) fun x hx=>hl x (by simp [hx])
theorem QC.len {n m : Nat} {qu : Quc} (h : QC n m qu) : qu.length ≤ n * m:=by
 have:=xd6 (n * m) (qu.map fun q=>q.1.a * m + q.1.b) ?_ ?_
 · simpa using this
 · rw [List.Nodup,List.pairwise_map]
   have hn:=h.nd
   rw [List.Nodup,List.pairwise_map] at hn
   refine hn.imp_of_mem fun {x y} hx hy hne he=>hne ?_
   obtain ⟨⟨a0,a1⟩,b0,b1⟩:=h.r x hx
   obtain ⟨⟨c0,c1⟩,d0,d1⟩:=h.r y hy
   obtain ⟨⟨xa,xb⟩,xp⟩:=x
   obtain ⟨⟨ya,yb⟩,yp⟩:=y
   simp only at a0 a1 b0 b1 c0 c1 d0 d1 he ⊢
   have e : xa * m + xb = ya * m + yb:=he
   have e1 : xa = ya:=by
    have q1 : (xa * m + xb) / m = xa:=by rw [zi,zm _ _ (by omega),zn b0 b1];omega
    have q2 : (ya * m + yb) / m = ya:=by rw [zi,zm _ _ (by omega),zn d0 d1];omega
    rw [← q1, ← q2,e]
   subst e1
   have : xb = yb:=by omega
   rw [this]
 · intro v hv
   obtain ⟨x,hx,rfl⟩:=List.mem_map.1 hv
   obtain ⟨⟨a0,a1⟩,b0,b1⟩:=h.r x hx
   have h1 : 0 ≤ x.1.a * (m : Int):=Int.mul_nonneg a0 (by omega)
   have h2 : (x.1.a + 1) * (m : Int) ≤ (n : Int) * (m : Int):=Int.mul_le_mul_of_nonneg_right (by omega) (by omega)
   have h3 : ((n * m : Nat) : Int) = (n : Int) * (m : Int):=by push_cast;rfl
   rw [h3]
   rw [Int.add_mul] at h2
   omega
end Go.Proofs.YtgecnlcbdbaneaaDoor
/- Keys of below.bound, as keys of a map. -/
-- TYPESD
namespace Go.Proofs.YtgecnlcbdbaneaaDoor
open Go.RowKit Go.Sw Go.MapKept

def kV (q : Ky) : Value:=.agg #[.int .i64 q.i,.int .i64 q.k,.int .i64 q.u]
theorem un143 : Tryd.prog.underlying 143 = some (.array 3 3):=by kernel_rfl
theorem pk3 : Tryd.prog.plainKey 3 = true:=by kernel_rfl
theorem co3 : Tryd.prog.cellsOf 3 = 1:=by kernel_rfl
theorem in3 : ∃ i,Tryd.prog.info? 3 = some i:=info_of_underlying un3
theorem yx2 (x y : Int) (w : World) : (Op.equalIn 9999 3 (.int .i64 x) (.int .i64 y)).run Tryd.prog w = .ok (x == y) w:=by
 by_cases h : x = y
 · subst h;go_simp
 · go_simp
theorem ky_eqIn (a b c a' b' c' : Int) (w : World) : (Op.equalIn 10000 143 (.agg #[.int .i64 a,.int .i64 b,.int .i64 c]) (.agg #[.int .i64 a',.int .i64 b',.int .i64 c'])).run Tryd.prog w = .ok (a == a' && (b == b' && c == c')) w:=by
 obtain ⟨i,hi⟩:=in3
 rw [run_equalIn_array w 9999 _ _ un143 hi]
 have hr : List.range 3 = [0,1,2]:=by decide
 have p0 : ∀ (x y z : Int) (w : World),(part 3 #[.int .i64 x,.int .i64 y,.int .i64 z] 0).run Tryd.prog w = .ok (.int .i64 x) w:=fun x y z w=>run_part_plain w pk3 rfl
 have p1 : ∀ (x y z : Int) (w : World),(part 3 #[.int .i64 x,.int .i64 y,.int .i64 z] 1).run Tryd.prog w = .ok (.int .i64 y) w:=fun x y z w=>run_part_plain w pk3 rfl
 have p2 : ∀ (x y z : Int) (w : World),(part 3 #[.int .i64 x,.int .i64 y,.int .i64 z] 2).run Tryd.prog w = .ok (.int .i64 z) w:=fun x y z w=>run_part_plain w pk3 rfl
 rw [hr]
 simp only [Op.eqItems,co3,Nat.mul_one,Sem.run_bind,p0,p1,p2,Result.andThen_ok,yx2]
 by_cases h1 : a = a' <;> by_cases h2 : b = b' <;> by_cases h3 : c = c' <;> simp [h1,h2,h3,Sem.run_bind,p1,p2,yx2]
set_option maxRecDepth 100000 in
theorem yq5 (q : Ky) (c : Bool) (w : World) : (Instr.checkKey c 10000 143 (kV q)).run Tryd.prog w = .ok () w:=by
 obtain ⟨i,hi⟩:=in3
 have k1 : ∀ (n : Int) (w : World),(Instr.checkKey c 9999 3 (.int .i64 n)).run Tryd.prog w = .ok () w:=fun n w=>run_checkKey un3 (by simp [IsKey]) c 9998
 have p0 : ∀ (x y z : Int) (w : World),(part 3 #[.int .i64 x,.int .i64 y,.int .i64 z] 0).run Tryd.prog w = .ok (.int .i64 x) w:=fun x y z w=>run_part_plain w pk3 rfl
 have p1 : ∀ (x y z : Int) (w : World),(part 3 #[.int .i64 x,.int .i64 y,.int .i64 z] 1).run Tryd.prog w = .ok (.int .i64 y) w:=fun x y z w=>run_part_plain w pk3 rfl
 have p2 : ∀ (x y z : Int) (w : World),(part 3 #[.int .i64 x,.int .i64 y,.int .i64 z] 2).run Tryd.prog w = .ok (.int .i64 z) w:=fun x y z w=>run_part_plain w pk3 rfl
 have hr : List.range' 0 3 = [0,1,2]:=by decide
 unfold kV
 rw [show (10000 : Nat) = 9999 + 1 from rfl,Instr.checkKey]
 simp only [Sem.run_bind,run_underlying un143,Result.andThen_ok]
 simp only [Std.Legacy.Range.forIn_eq_forIn_range',Std.Legacy.Range.size,Nat.sub_zero,Nat.add_one_sub_one,Nat.div_one]
 rw [hr]
 simp only [List.forIn_cons,List.forIn_nil,Sem.run_bind,run_sizeOf w hi,co3,Nat.mul_one,Result.andThen_ok,p0,p1,p2,k1,Sem.run_pure]
theorem yk0 (p q : Ky) : keq (kV p) (kV q) = decide (p = q):=by
 obtain ⟨a,b,c⟩:=p
 obtain ⟨a',b',c'⟩:=q
 rw [Bool.eq_iff_iff,decide_eq_true_iff]
 simp only [kV,keq,keqL,kql,Ky.mk.injEq,if_true]
 by_cases h1 : a = a' <;> by_cases h2 : b = b' <;> by_cases h3 : c = c' <;> simp [h1,h2,h3]
theorem yj8 (p : Ky) : ∀ (M : List (Value × Value)) (i j : Nat) (w : World),(∀ q ∈ M, ∃ r,q.1 = kV r) → (Instr.findAsking 143 (kV p) (qd8 j M) i).run Tryd.prog w = .ok (qe4 (kV p) M i) w
 | [],i,j,w,_=>by simp [qd8,Instr.findAsking,qe4]
 | (k, v) :: M,i,j,w,h=>by
  obtain ⟨r,hr⟩:=h (k,v) (by simp)
  simp only at hr
  subst hr
  have ih:=yj8 p M (i + 1) (j + 1) w fun q hq=>h q (by simp [hq])
  have he : (Op.equal 143 (kV p) (kV r)).run Tryd.prog w = .ok (decide (p = r)) w:=by
   unfold Op.equal Op.maxDepth
   obtain ⟨a,b,c⟩:=p
   obtain ⟨a',b',c'⟩:=r
   simp only [kV]
   rw [ky_eqIn]
   congr 1
   rw [Bool.eq_iff_iff,decide_eq_true_iff]
   simp [and_assoc]
  simp only [qd8,Instr.findAsking,Sem.run_bind,he,Result.andThen_ok,qe4,yk0]
  cases decide (p = r) with
  | true=>simp
  | false=>simpa using ih
theorem yq4 (p : Ky) (M : List (Value × Value)) (h : ∀ q ∈ M, ∃ r,q.1 = kV r) : vn4 Tryd.prog 143 (kV p) M:=by
 refine ⟨fun w c=>yq5 p c w,fun w=>?_,fun w k' hk he=>?_⟩
 · rw [run_findKey_eq w (by kernel_rfl) (kV p) (qd8 0 M)]
   exact yj8 p M 0 0 w h
 · obtain ⟨q,hq,rfl⟩:=List.mem_map.1 hk
   obtain ⟨r,hr⟩:=h q hq
   rw [hr,yk0,decide_eq_true_iff] at he
   rw [hr, ← he]
   have hs : Instr.sameBits 10000 (kV p) (kV p) = true:=by
    obtain ⟨a,b,c⟩:=p
    simp [kV,Instr.sameBits]
   simp [Instr.keyThatStays,hs]
def mKf : Nat → List Ky → List (Value × Value)
 | _,[]=>[]
 | n,q :: ks=>(kV q,.int .i64 n) :: mKf (n + 1) ks
def mK (ks : List Ky) : List (Value × Value):=mKf 0 ks
theorem xn9 : ∀ (ks : List Ky) (n : Nat), ∀ q ∈ mKf n ks, ∃ r,q.1 = kV r
 | [],_,q,h=>by simp [mKf] at h
 | k :: ks,n,q,h=>by
  simp only [mKf,List.mem_cons] at h
  rcases h with rfl | h
  · exact ⟨k,rfl⟩
  · exact xn9 ks _ q h
theorem mK_keys (ks : List Ky) : ∀ q ∈ mK ks, ∃ r,q.1 = kV r:=xn9 ks 0
theorem ya5 : ∀ (ks : List Ky) (n : Nat) (q : Ky),mKf n (ks ++ [q]) = mKf n ks ++ [(kV q,.int .i64 ((n + ks.length : Nat) : Int))]
 | [],n,q=>by simp [mKf]
 | k :: ks,n,q=>by
  simp only [List.cons_append,mKf,ya5 ks,List.length_cons,show n + 1 + ks.length = n + (ks.length + 1) by omega]
theorem mK_app (ks : List Ky) (q : Ky) : mK (ks ++ [q]) = mK ks ++ [(kV q,.int .i64 (ks.length : Int))]:=by
 simp [mK,ya5]
end Go.Proofs.YtgecnlcbdbaneaaDoor
/- Bounds of two graphs, told by trees: plain. -/
namespace Go.Proofs.YtgecnlcbdbaneaaDoor
open Go.RowKit Go.Sw

def atL (x : Nd) (l : ByteArray) : Int:=x.to.getD (ixL l x.ls).toNat 0
def shN (x : Nd) : Prop:=shp x.k x.so x.ls x.to.length
theorem shN.one {x : Nd} (h : shN x) (hk : x.k = 2 ∨ x.k = 3) : 0 < x.to.length:=by
 rcases h with ⟨h, -, -, -⟩ | ⟨-, -, -,h⟩ | ⟨h, -, -, -⟩ | ⟨h, -, -, -⟩ <;> omega
theorem shN.two {x : Nd} (h : shN x) (hk : x.k = 4 ∨ x.k = 5) : 0 < x.to.length ∧ 1 < x.to.length:=by
 rcases h with ⟨h, -, -, -⟩ | ⟨h, -, -, -⟩ | ⟨-, -, -,h⟩ | ⟨h, -, -, -⟩ <;> omega
theorem shN.lab {x : Nd} (h : shN x) (hk : x.k = 6 ∨ x.k = 7) : x.ls.length = x.to.length ∧ qh8 x.ls = true:=by
 rcases h with ⟨h, -, -, -⟩ | ⟨h, -, -, -⟩ | ⟨h, -, -, -⟩ | ⟨-, -,h,h'⟩
 · omega
 · omega
 · omega
 · exact ⟨h'.symm,h⟩
theorem shN.nol {x : Nd} (h : shN x) (hk : ¬ (x.k = 6 ∨ x.k = 7)) : x.ls = []:=by
 rcases h with ⟨-, -,h, -⟩ | ⟨-, -,h, -⟩ | ⟨-, -,h, -⟩ | ⟨h, -, -, -⟩
 · exact h
 · exact h
 · exact h
 · exact absurd h hk
theorem qo6 {g : List Nd} {n : Nat} {x : Nd} (h : shN x) (hk : x.k = 6 ∨ x.k = 7) {l : ByteArray} (hl : l ∈ x.ls) : vg8 x.ls (x.to.map (obs g n)) l = obs g n (atL x l):=by
 unfold vg8 atL
 have:=(qk8 hl).2
 exact kid_map (by have:=(h.lab hk).1;omega)
theorem sub_succ {g h : List Nd} {i j : Int} {x z : Nd} (hx : gAt g i = x) (hz : gAt h j = z) (sx : shN x) (sz : shN z) (n : Nat) :
 qh7 (n + 1) (obs g (n + 1) i) (obs h (n + 1) j) ↔ (x.k = z.k ∧ x.so = z.so ∧ (x.k = 2 ∨ x.k = 3 → qh7 n (obs g n (x.to.getD 0 0)) (obs h n (z.to.getD 0 0))) ∧
  (x.k = 4 → qh7 n (obs h n (z.to.getD 0 0)) (obs g n (x.to.getD 0 0)) ∧ qh7 n (obs g n (x.to.getD 1 0)) (obs h n (z.to.getD 1 0))) ∧
  (x.k = 5 → qh7 n (obs g n (x.to.getD 0 0)) (obs h n (z.to.getD 0 0)) ∧ qh7 n (obs g n (x.to.getD 1 0)) (obs h n (z.to.getD 1 0))) ∧
  (x.k = 6 → ∀ l ∈ z.ls,l ∈ x.ls ∧ qh7 n (obs g n (atL x l)) (obs h n (atL z l))) ∧
  (x.k = 7 → ∀ l ∈ x.ls,l ∈ z.ls ∧ qh7 n (obs g n (atL x l)) (obs h n (atL z l)))):=by
 have e : qh7 (n + 1) (obs g (n + 1) i) (obs h (n + 1) j) ↔ qh7 (n + 1) (.nd x.k x.so x.ls (x.to.map (obs g n))) (.nd z.k z.so z.ls (z.to.map (obs h n))):=by
  rw [← hx, ← hz];exact Iff.rfl
 rw [e]
 clear e
 have kx : ∀ p,p < x.to.length → kid (x.to.map (obs g n)) p = obs g n (x.to.getD p 0):=fun p hp=>kid_map hp
 have kz : ∀ p,p < z.to.length → kid (z.to.map (obs h n)) p = obs h n (z.to.getD p 0):=fun p hp=>kid_map hp
 constructor
 · intro hs
   unfold qh7 at hs
   obtain ⟨h1,h2,h3,h4,h5,h6,h7⟩:=hs
   refine ⟨h1,h2,fun hk=>?_,fun hk=>?_,fun hk=>?_,fun hk l hl=>?_,fun hk l hl=>?_⟩
   · have:=h3 hk
     rwa [kx 0 (sx.one hk),kz 0 (sz.one (by omega))] at this
   · have:=h4 hk
     have a:=sx.two (.inl hk)
     have b:=sz.two (.inl (by omega))
     rwa [kx 0 a.1,kz 0 b.1,kx 1 a.2,kz 1 b.2] at this
   · have:=h5 hk
     have a:=sx.two (.inr hk)
     have b:=sz.two (.inr (by omega))
     rwa [kx 0 a.1,kz 0 b.1,kx 1 a.2,kz 1 b.2] at this
   · have:=h6 hk l hl
     rwa [qo6 sx (.inl hk) this.1,qo6 sz (.inl (by omega)) hl] at this
   · have:=h7 (by omega) (by omega) (by omega) l hl
     rwa [qo6 sx (.inr hk) hl,qo6 sz (.inr (by omega)) this.1] at this
 · rintro ⟨h1,h2,h3,h4,h5,h6,h7⟩
   unfold qh7
   refine ⟨h1,h2,fun hk=>?_,fun hk=>?_,fun hk=>?_,fun hk l hl=>?_,fun k1 k2 k3 l hl=>?_⟩
   · rw [kx 0 (sx.one hk),kz 0 (sz.one (by omega))]
     exact h3 hk
   · have a:=sx.two (.inl hk)
     have b:=sz.two (.inl (by omega))
     rw [kx 0 a.1,kz 0 b.1,kx 1 a.2,kz 1 b.2]
     exact h4 hk
   · have a:=sx.two (.inr hk)
     have b:=sz.two (.inr (by omega))
     rw [kx 0 a.1,kz 0 b.1,kx 1 a.2,kz 1 b.2]
     exact h5 hk
   · have:=h6 hk l hl
     rw [qo6 sx (.inl hk) this.1,qo6 sz (.inl (by omega)) hl]
     exact this
   · by_cases hk : x.k = 7
     · have:=h7 hk l hl
       rw [qo6 sx (.inr hk) hl,qo6 sz (.inr (by omega)) this.1]
       exact this
     · rw [sx.nol (by omega)] at hl
       cases hl
def qw9 (u : Int) (n : Nat) (s t : Tr) : Prop:=if u = 1 then qh7 n s t else qh7 n t s
def vo9 (k u : Int) : Bool:=decide (k = 7) != decide (u = 1)
structure Sub1 (u : Int) (n : Nat) (g h : List Nd) (x z : Nd) : Prop where
 k : x.k = z.k
 so : x.so = z.so
 one : x.k = 2 ∨ x.k = 3 → qw9 u n (obs g n (x.to.getD 0 0)) (obs h n (z.to.getD 0 0))
 four : x.k = 4 → qw9 (1 - u) n (obs g n (x.to.getD 0 0)) (obs h n (z.to.getD 0 0)) ∧ qw9 u n (obs g n (x.to.getD 1 0)) (obs h n (z.to.getD 1 0))
 five : x.k = 5 → qw9 u n (obs g n (x.to.getD 0 0)) (obs h n (z.to.getD 0 0)) ∧ qw9 u n (obs g n (x.to.getD 1 0)) (obs h n (z.to.getD 1 0))
 less : x.k = 6 ∨ x.k = 7 → vo9 x.k u = true → ∀ l ∈ z.ls,l ∈ x.ls
 more : x.k = 6 ∨ x.k = 7 → vo9 x.k u = false → ∀ l ∈ x.ls,l ∈ z.ls
 lab : x.k = 6 ∨ x.k = 7 → ∀ l ∈ x.ls,l ∈ z.ls → qw9 u n (obs g n (atL x l)) (obs h n (atL z l))
theorem qh5 {n : Nat} {s t : Tr} : qw9 1 n s t ↔ qh7 n s t:=by unfold qw9;rw [if_pos rfl]
theorem qe5 {n : Nat} {s t : Tr} : qw9 0 n s t ↔ qh7 n t s:=by unfold qw9;rw [if_neg (by decide)]
theorem qt5 {g h : List Nd} {i j : Int} {x z : Nd} (hx : gAt g i = x) (hz : gAt h j = z) (sx : shN x) (sz : shN z) {u : Int} (hu : u = 0 ∨ u = 1) (n : Nat) :
 qw9 u (n + 1) (obs g (n + 1) i) (obs h (n + 1) j) ↔ Sub1 u n g h x z:=by
 rcases hu with rfl | rfl
 · rw [qe5,sub_succ hz hx sz sx]
   constructor
   · rintro ⟨h1,h2,h3,h4,h5,h6,h7⟩
     refine ⟨h1.symm,h2.symm,fun hk=>?_,fun hk=>?_,fun hk=>?_,fun hk hl l hm=>?_,fun hk hl l hm=>?_,fun hk l hm hm'=>?_⟩
     · rw [qe5];exact h3 (by omega)
     · rw [qe5,show (1 : Int) - 0 = 1 from rfl,qh5];exact h4 (by omega)
     · rw [qe5,qe5];exact h5 (by omega)
     · have : x.k = 7:=by
        rcases hk with e | e
        · rw [e] at hl;exact absurd hl (by decide)
        · exact e
       exact (h7 (by omega) l hm).1
     · have : x.k = 6:=by
        rcases hk with e | e
        · exact e
        · rw [e] at hl;exact absurd hl (by decide)
       exact (h6 (by omega) l hm).1
     · rw [qe5]
       rcases hk with e | e
       · exact (h6 (by omega) l hm).2
       · exact (h7 (by omega) l hm').2
   · rintro ⟨h1,h2,h3,h4,h5,h6,h7,h8⟩
     refine ⟨h1.symm,h2.symm,fun hk=>?_,fun hk=>?_,fun hk=>?_,fun hk l hm=>?_,fun hk l hm=>?_⟩
     · have:=h3 (by omega);rwa [qe5] at this
     · have:=h4 (by omega);rwa [qe5,show (1 : Int) - 0 = 1 from rfl,qh5] at this
     · have:=h5 (by omega);rwa [qe5,qe5] at this
     · have e : x.k = 6:=by omega
       have a:=h7 (.inl e) (by rw [e];decide) l hm
       have b:=h8 (.inl e) l hm a
       rw [qe5] at b
       exact ⟨a,b⟩
     · have e : x.k = 7:=by omega
       have a:=h6 (.inr e) (by rw [e];decide) l hm
       have b:=h8 (.inr e) l a hm
       rw [qe5] at b
       exact ⟨a,b⟩
 · rw [qh5,sub_succ hx hz sx sz]
   constructor
   · rintro ⟨h1,h2,h3,h4,h5,h6,h7⟩
     refine ⟨h1,h2,fun hk=>?_,fun hk=>?_,fun hk=>?_,fun hk hl l hm=>?_,fun hk hl l hm=>?_,fun hk l hm hm'=>?_⟩
     · rw [qh5];exact h3 hk
     · rw [qh5,show (1 : Int) - 1 = 0 from rfl,qe5];exact h4 hk
     · rw [qh5,qh5];exact h5 hk
     · have : x.k = 6:=by
        rcases hk with e | e
        · exact e
        · rw [e] at hl;exact absurd hl (by decide)
       exact (h6 this l hm).1
     · have : x.k = 7:=by
        rcases hk with e | e
        · rw [e] at hl;exact absurd hl (by decide)
        · exact e
       exact (h7 this l hm).1
     · rw [qh5]
       rcases hk with e | e
       · exact (h6 e l hm').2
       · exact (h7 e l hm).2
   · rintro ⟨h1,h2,h3,h4,h5,h6,h7,h8⟩
     refine ⟨h1,h2,fun hk=>?_,fun hk=>?_,fun hk=>?_,fun e l hm=>?_,fun e l hm=>?_⟩
     · have:=h3 hk;rwa [qh5] at this
     · have:=h4 hk;rwa [qh5,show (1 : Int) - 1 = 0 from rfl,qe5] at this
     · have:=h5 hk;rwa [qh5,qh5] at this
     · have a:=h6 (.inl e) (by rw [e];decide) l hm
       have b:=h8 (.inl e) l a hm
       rw [qh5] at b
       exact ⟨a,b⟩
     · have a:=h7 (.inr e) (by rw [e];decide) l hm
       have b:=h8 (.inr e) l hm a
       rw [qh5] at b
       exact ⟨a,b⟩
structure Bnd (a b : List Nd) (q : Ky) (c : List Nd) (v : Int) : Prop where
 i : q.i ≠ -1 → ∀ n,qw9 q.u n (obs a n q.i) (obs c n v)
 k : q.k ≠ -1 → ∀ n,qw9 q.u n (obs b n q.k) (obs c n v)
theorem Gd.shN {g : List Nd} (h : Gd g) {i : Int} (hi : 0 ≤ i ∧ i < (g.length : Int)) : shN (gAt g i):=h.sh _ (qd0 hi.1 hi.2)
theorem Gd.lab {g : List Nd} (h : Gd g) {i : Int} (hi : 0 ≤ i ∧ i < (g.length : Int)) : ∀ l ∈ (gAt g i).ls,qe8 l = true:=(h.ok _ (qd0 hi.1 hi.2)).nm
theorem yt1 {l : List Int} {i : Nat} (h : i < l.length) : l.getD i 0 ∈ l:=by
 simp [List.getD,h]
theorem Gd.to {g : List Nd} (h : Gd g) {i : Int} (hi : 0 ≤ i ∧ i < (g.length : Int)) (p : Nat) : 0 ≤ (gAt g i).to.getD p 0 ∧ (gAt g i).to.getD p 0 < (g.length : Int):=by
 have hp:=h.pos
 by_cases hl : p < (gAt g i).to.length
 · exact (h.ok _ (qd0 hi.1 hi.2)).ok.r _ (yt1 hl)
 · simp only [List.getD]
   rw [List.getElem?_eq_none (by omega)]
   simp only [Option.getD_none]
   omega
theorem xj8 {l : ByteArray} : ∀ {ls : List ByteArray} {j : Nat},l ∉ ls → vn7 l.toList ls j = -1
 | [],_,_=>rfl
 | b :: ls,j,h=>by
  simp only [List.mem_cons,not_or] at h
  unfold vn7
  rw [if_neg (fun e=>h.1 (xr1 e))]
  exact xj8 h.2
theorem yk3 {g : List Nd} {i : Int} {l : ByteArray} (hi : i ≠ -1) (hl : l ∈ (gAt g i).ls) : goK g i (ixY g i l) = atL (gAt g i) l:=by
 have:=qk8 hl
 unfold goK ixY
 rw [if_neg hi,if_neg (by omega)]
 rfl
theorem yl5 {g : List Nd} {i : Int} {l : ByteArray} (hl : l ∉ (gAt g i).ls) : goK g i (ixY g i l) = -1:=by
 unfold goK ixY
 by_cases hi : i = -1
 · rw [if_pos (.inl hi)]
 · rw [if_neg hi]
   have : ixL l (gAt g i).ls = -1:=xj8 hl
   rw [this,if_pos (.inr rfl)]
theorem ya2 {g : List Nd} {i p : Int} (hi : i ≠ -1) (hp : 0 ≤ p) : goK g i p = (gAt g i).to.getD p.toNat 0:=by
 unfold goK
 rw [if_neg (by omega)]
end Go.Proofs.YtgecnlcbdbaneaaDoor
