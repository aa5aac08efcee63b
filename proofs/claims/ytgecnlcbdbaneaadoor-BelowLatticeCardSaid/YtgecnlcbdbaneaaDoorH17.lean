/- dual.Graph of a graph that is right; a symbolic walk. -/
import Derived.Test.YtgecnlcbdbaneaaDoorHQ4
import Derived.Test.YtgecnlcbdbaneaaDoorH24
import Derived.Test.YtgecnlcbdbaneaaDoorShelfJ
import Derived.Test.YtgecnlcbdbaneaaDoorH14
import Derived.Test.YtgecnlcbdbaneaaDoorTB
import Derived.Test.YtgecnlcbdbaneaaDoorSwD
import Derived.Laws.StructEq
import Derived.WideKeyRuns
import Derived.Test.YtgecnlcbdbaneaaDoorKD1
import Derived.ChangeKeysEq
-- TYPESA
set_option linter.unusedVariables false
set_option linter.unusedSimpArgs false
namespace Go.Proofs.YtgecnlcbdbaneaaDoor
open Go.RowKit Go.Sw

def PowT (Γ : Gl) : Prop := ∀ w, Γ.G w → Lib.TabIs Tryd.prog w "internal/strconv.uint64pow10" .u64 Lib.pow10Tab
theorem itoa_any (Γ : Gl) (hΓ : PowT Γ) (n : Int) (h0 : 0 ≤ n) (h1 : n < 1000) : DFn Tryd.prog Γ 83 [iD n] (sD (numS n)) :=
 dfn_of (by kernel_rfl) rfl rfl fun w h=>by
  have:=Tryd.strconv_Itoa n (by omega) (by omega) w (hΓ w h)
  have e : (⟨(Lib.itoa n).toArray⟩ : ByteArray) = numS n:=by
   unfold numS packS Lib.itoa
   rw [if_neg (by omega)]
  rw [e] at this
  exact this.mono fun e w' ⟨he,k,os,hw⟩=>⟨he,by
   subst hw
   exact ⟨rfl,rfl,rfl,by simp [Go.Sort.grow],fun b hb=>by simp only [Go.Sort.grow];exact Array.getElem?_append_left (by simpa using hb)⟩⟩
theorem grow2 {g : List Nd} (hg : ∀ n ∈ g,NdG g.length n) (cl : List Int) (hl : cl.length = g.length) : (allK (keysF cl 0 g)).length ≤ (allK (keysF (nxtK (keysF cl 0 g)) 0 g)).length:=by
 have l1:=keysF_len cl g 0
 have l2:=keysF_len (nxtK (keysF cl 0 g)) g 0
 refine (cnt_lists (by rw [l1,l2]) fun i j hi hj e=>?_).1
 rw [l1] at hi hj
 rw [keysF_get _ g 0 i g[i] (List.getElem?_eq_getElem hi),keysF_get _ g 0 j g[j] (List.getElem?_eq_getElem hj),Nat.zero_add,Nat.zero_add] at e
 have hk:=key_inj (fun c hc=>(nxtK_range _ c hc).1) (hg _ (List.getElem_mem hi)) (hg _ (List.getElem_mem hj)) (Option.some.inj e)
 have cls : ∀ i (hi : i < (keysF cl 0 g).length),(nxtK (keysF cl 0 g)).getD i 0 = plK ((keysF cl 0 g)[i]) (allK (keysF cl 0 g)):=fun i hi=>by
  unfold nxtK
  rw [List.getD_eq_getElem?_getD,List.getElem?_map,List.getElem?_eq_getElem hi];rfl
 have hc:=hk.2.2.2.1
 rw [cls i (by omega),cls j (by omega)] at hc
 rw [List.getElem?_eq_getElem (by omega),List.getElem?_eq_getElem (by omega),plK_inj (List.getElem_mem _) (List.getElem_mem _) hc]
theorem leastL_fn (Γ : Gl) (hΓ : PowT Γ) (g : List Nd) (h0 : 0 < g.length) (h2 : g.length ≤ 200) (hg : ∀ n ∈ g,NdG g.length n) : DFn Tryd.prog Γ 46 [.slc (g.map Nd.d)] (.slc ((leastP g).map Nd.d)):=by
 have hp:=parted_fn Γ 250 (by decide) (by decide) (fun n h0 h1=>itoa_any Γ hΓ n h0 (by omega)) g (by omega) (fun n hn=>(hg n hn).ok) (fun cl hl hc=>grow2 hg cl hl)
 exact least_fn Γ g (by omega) h0 (fun n hn=>(hg n hn).ok) (parted_len _) hp
set_option maxHeartbeats 4000000 in
set_option maxRecDepth 100000 in
theorem least2_fn (Γ : Gl) (hΓ : PowT Γ) (g : List Nd) (h0g : 0 < g.length) (h2 : g.length ≤ 200) (hg : ∀ n ∈ g,NdG g.length n) (hs : ShG g) : DFn Tryd.prog Γ 65 [.slc (g.map Nd.d)] (.tup [.slc ((leastP g).map Nd.d),iD 0]):=by
 have hc:=gcheck_fn Γ g h0g h2 hg hs
 have hl:=leastL_fn Γ hΓ g h0g h2 hg
 generalize g.map Nd.d = A at *
 generalize (leastP g).map Nd.d = B at *
 refine fn_of_swp (N:=12) Tryd.func65 rfl (by decide) rfl rfl (by simp) (fun C h0=>?_)
 simp only [argE]
 repeat' (first|(with_reducible apply zz1)|((with_reducible refine zz4 ?_ ?_);rfl)|((with_reducible refine zz2 ?_ (fun K' hK'=>?_));rfl;simp only [WA,simprocAttr];(repeat (refine And.intro ?_ ?_;focus (clear hK';intros;simp_all;done)));(try (refine hK' _ _ ?_;clear hK' K')))|((with_reducible refine zz3 ?_ ?_);rfl;refine ⟨_,rfl,fun h=>?_,fun h=>?_⟩ <;> try exact absurd h (by decide)))
 refine stop_callF rfl (by simp only [WA,simprocAttr]) rfl rfl (hc) ?_
 simp only [WA,simprocAttr,inX,dropS,bne_self_eq_false]
 (repeat (refine And.intro ?_ ?_;focus (clear hK';intros;simp_all;done)))
 (try (refine hK' _ _ ?_;clear hK' K'))
 repeat' (first|(with_reducible apply zz1)|((with_reducible refine zz4 ?_ ?_);rfl)|((with_reducible refine zz2 ?_ (fun K' hK'=>?_));rfl;simp only [WA,simprocAttr,bne_self_eq_false];(repeat (refine And.intro ?_ ?_;focus (clear hK';intros;simp_all;done)));(try (refine hK' _ _ ?_;clear hK' K')))|((with_reducible refine zz3 ?_ ?_);rfl;refine ⟨_,rfl,fun h=>?_,fun h=>?_⟩ <;> try exact absurd h (by decide)))
 refine stop_call h0 rfl (by simp only [WA,simprocAttr]) rfl (by simp only [keepS,Option.isSome_some,WA,simprocAttr]) (hl) ?_
 simp only [WA,simprocAttr,inX,dropS, ]
 (repeat (refine And.intro ?_ ?_;focus (clear hK';intros;simp_all;done)))
 (try (refine hK' _ _ ?_;clear hK' K'))
 repeat' (first|(with_reducible apply zz1)|((with_reducible refine zz4 ?_ ?_);rfl)|((with_reducible refine zz2 ?_ (fun K' hK'=>?_));rfl;simp only [WA,simprocAttr];(repeat (refine And.intro ?_ ?_;focus (clear hK';intros;simp_all;done)));(try (refine hK' _ _ ?_;clear hK' K')))|((with_reducible refine zz3 ?_ ?_);rfl;refine ⟨_,rfl,fun h=>?_,fun h=>?_⟩ <;> try exact absurd h (by decide)))
 simp only [Kret,retL,retOne,oneV,WA,simprocAttr]
end Go.Proofs.YtgecnlcbdbaneaaDoor
/- The law BelowOrder; a symbolic walk. -/
-- TYPESA
namespace Go.Proofs.YtgecnlcbdbaneaaDoor
open Go.RowKit Go.Sw

end Go.Proofs.YtgecnlcbdbaneaaDoor
/- dual.Of, below.Graphs, the law BelowDual; a symbolic walk. -/
-- TYPESA
namespace Go.Proofs.YtgecnlcbdbaneaaDoor
open Go.RowKit Go.Sw

end Go.Proofs.YtgecnlcbdbaneaaDoor
/- comply.at; a symbolic walk. -/
-- TYPESB
namespace Go.Proofs.YtgecnlcbdbaneaaDoor
open Go.RowKit Go.Sw

def swI (k i : Int) : Int:=if i = 0 then k else if i = k then 0 else i
def atNd (g : List Nd) (k : Int) (i : Nat) : Nd:=⟨(gAt g (swI k i)).k,(gAt g (swI k i)).so,(gAt g (swI k i)).ls,(gAt g (swI k i)).to.map (swI k)⟩
def atP (g : List Nd) (k : Int) : List Nd:=(List.range g.length).map (atNd g k)
theorem swI_range {g : List Nd} {k i : Int} (h0 : 0 < g.length) (hk : 0 ≤ k ∧ k < (g.length : Int)) (hi : 0 ≤ i ∧ i < (g.length : Int)) : 0 ≤ swI k i ∧ swI k i < (g.length : Int):=by
 unfold swI
 split
 · exact hk
 · split
   · omega
   · exact hi
end Go.Proofs.YtgecnlcbdbaneaaDoor
/- comply.meets at a choice; a symbolic walk. -/
-- TYPESB
namespace Go.Proofs.YtgecnlcbdbaneaaDoor
open Go.RowKit Go.Sw

structure Pc where
 a : Int
 b : Int
deriving DecidableEq
def Pc.d (p : Pc) : D:=.agg [iD p.a,iD p.b]
theorem atP_len (g : List Nd) (k : Int) : (atP g k).length = g.length:=by simp [atP]
theorem atP_good {g : List Nd} {k : Int} (h0 : 0 < g.length) (hk : 0 ≤ k ∧ k < (g.length : Int)) (hg : ∀ n ∈ g,NdG g.length n) (hs : ShG g) : (∀ n ∈ atP g k,NdG (atP g k).length n) ∧ ShG (atP g k):=by
 have key : ∀ n ∈ atP g k, ∃ m ∈ g,n = ⟨m.k,m.so,m.ls,m.to.map (swI k)⟩:=fun n hn=>by
  obtain ⟨i,hi,rfl⟩:=List.mem_map.1 hn
  have hi:=List.mem_range.1 hi
  have hr:=swI_range h0 hk (i:=(i : Int)) ⟨by omega,by omega⟩
  exact ⟨_,gAt_mem hr.1 hr.2,rfl⟩
 constructor
 · intro n hn
   obtain ⟨m,hm,rfl⟩:=key n hn
   have gm:=hg m hm
   rw [atP_len]
   refine ⟨⟨gm.ok.k,gm.ok.so,gm.ok.ls,gm.ok.lb,by simp only [List.length_map];exact gm.ok.to,fun t ht=>?_⟩,⟨fun h=>by simp only [List.length_map];exact gm.sh.one h,fun h=>by simp only [List.length_map];exact gm.sh.two h,by simp only [List.length_map];exact gm.sh.ls,gm.sh.l6⟩,gm.nm⟩
   obtain ⟨u,hu,rfl⟩:=List.mem_map.1 ht
   exact swI_range h0 hk (gm.ok.r u hu)
 · intro n hn
   obtain ⟨m,hm,rfl⟩:=key n hn
   simp only [List.length_map]
   exact hs m hm
theorem Gd.at {g : List Nd} (h : Gd g) {k : Int} (hk : 0 ≤ k ∧ k < (g.length : Int)) : Gd (atP g k) :=
 ⟨by rw [atP_len];exact h.pos,by rw [atP_len];exact h.le,(atP_good h.pos hk h.ok h.sh).1,(atP_good h.pos hk h.ok h.sh).2⟩
end Go.Proofs.YtgecnlcbdbaneaaDoor
/- comply.meets; a symbolic walk. -/
-- TYPESB
namespace Go.Proofs.YtgecnlcbdbaneaaDoor
open Go.RowKit Go.Sw

end Go.Proofs.YtgecnlcbdbaneaaDoor
/- comply.stuck as a plain function; its pairs as keys (turned from HP4). -/
namespace Go.Proofs.YtgecnlcbdbaneaaDoor
open Go.RowKit Go.Sw Go.MapKept

abbrev Quc:=List (Pc × List ByteArray)
def hasC (p : Pc) (qu : Quc) : Bool:=qu.any fun q=>decide (p = q.1)
def addC (path : List ByteArray) (qu : Quc) (s : ByteArray × Pc) : Quc:=if hasC s.2 qu = true then qu else qu ++ [(s.2,path ++ [s.1])]
structure QC (n m : Nat) (qu : Quc) : Prop where
 nd : (qu.map (·.1)).Nodup
 r : ∀ q ∈ qu,(0 ≤ q.1.a ∧ q.1.a < (n : Int)) ∧ 0 ≤ q.1.b ∧ q.1.b < (m : Int)
 p : ∀ (i : Nat) (q : Pc × List ByteArray),qu[i]? = some q → q.2.length ≤ i
theorem hasC_mem {p : Pc} {qu : Quc} : hasC p qu = true ↔ p ∈ qu.map (·.1):=by
 simp only [hasC,List.any_eq_true,decide_eq_true_iff,List.mem_map]
 constructor
 · rintro ⟨q,h1,h2⟩;exact ⟨q,h1,h2.symm⟩
 · rintro ⟨q,h1,h2⟩;exact ⟨q,h1,h2.symm⟩
theorem QC.add {n m : Nat} {qu : Quc} (h : QC n m qu) {at' : Nat} {path : List ByteArray} (hp : path.length ≤ at') (ha : at' < qu.length) {s : ByteArray × Pc} (hs : (0 ≤ s.2.a ∧ s.2.a < (n : Int)) ∧ 0 ≤ s.2.b ∧ s.2.b < (m : Int)) : QC n m (addC path qu s):=by
 unfold addC
 split
 · exact h
 · rename_i hx
   refine ⟨?_,fun q hq=>?_,fun i q hq=>?_⟩
   · rw [List.map_append]
     refine List.nodup_append.2 ⟨h.nd,by simp,fun a h1 b h2 hab=>?_⟩
     obtain rfl : b = s.2:=by simpa using h2
     exact hx (hasC_mem.2 (hab ▸ h1))
   · rcases List.mem_append.1 hq with hq | hq
     · exact h.r q hq
     · obtain rfl : q = (s.2,path ++ [s.1]):=by simpa using hq
       exact hs
   · by_cases hi : i < qu.length
     · rw [List.getElem?_append_left hi] at hq;exact h.p i q hq
     · rw [List.getElem?_append_right (by omega)] at hq
       by_cases h0 : i - qu.length = 0
       · rw [h0] at hq
         simp at hq
         subst hq
         simp;omega
       · rw [List.getElem?_eq_none (by simp;omega)] at hq;cases hq
theorem QC.len {n m : Nat} {qu : Quc} (h : QC n m qu) : qu.length ≤ n * m:=by
 have:=pigeon (n * m) (qu.map fun q=>q.1.a * m + q.1.b) ?_ ?_
 · simpa using this
 · rw [List.Nodup,List.pairwise_map]
   have hn:=h.nd
   rw [List.Nodup,List.pairwise_map] at hn
   refine hn.imp_of_mem fun {x y} hx hy hne he=>hne ?_
   obtain ⟨⟨a0,a1⟩,b0,b1⟩:=h.r x hx
   obtain ⟨⟨c0,c1⟩,d0,d1⟩:=h.r y hy
   obtain ⟨⟨xa,xb⟩,xp⟩:=x
   obtain ⟨⟨ya,yb⟩,yp⟩:=y
   simp only at a0 a1 b0 b1 c0 c1 d0 d1 he ⊢
   have e : xa * m + xb = ya * m + yb:=he
   have e1 : xa = ya:=by
    have q1 : (xa * m + xb) / m = xa:=by rw [Int.add_comm,Int.add_mul_ediv_right _ _ (by omega),Int.ediv_eq_zero_of_lt b0 b1];omega
    have q2 : (ya * m + yb) / m = ya:=by rw [Int.add_comm,Int.add_mul_ediv_right _ _ (by omega),Int.ediv_eq_zero_of_lt d0 d1];omega
    rw [← q1, ← q2,e]
   subst e1
   have : xb = yb:=by omega
   rw [this]
 · intro v hv
   obtain ⟨x,hx,rfl⟩:=List.mem_map.1 hv
   obtain ⟨⟨a0,a1⟩,b0,b1⟩:=h.r x hx
   have h1 : 0 ≤ x.1.a * (m : Int):=Int.mul_nonneg a0 (by omega)
   have h2 : (x.1.a + 1) * (m : Int) ≤ (n : Int) * (m : Int):=Int.mul_le_mul_of_nonneg_right (by omega) (by omega)
   have h3 : ((n * m : Nat) : Int) = (n : Int) * (m : Int):=by push_cast;rfl
   rw [h3]
   rw [Int.add_mul] at h2
   omega
end Go.Proofs.YtgecnlcbdbaneaaDoor
/- Keys of below.bound, as keys of a map. -/
-- TYPESD
namespace Go.Proofs.YtgecnlcbdbaneaaDoor
open Go.RowKit Go.Sw Go.MapKept

def kV (q : Ky) : Value:=.agg #[.int .i64 q.i,.int .i64 q.k,.int .i64 q.u]
theorem un143 : Tryd.prog.underlying 143 = some (.array 3 3):=by kernel_rfl
theorem pk3 : Tryd.prog.plainKey 3 = true:=by kernel_rfl
theorem co3 : Tryd.prog.cellsOf 3 = 1:=by kernel_rfl
theorem in3 : ∃ i,Tryd.prog.info? 3 = some i:=info_of_underlying un3
theorem e3_run (x y : Int) (w : World) : (Op.equalIn 9999 3 (.int .i64 x) (.int .i64 y)).run Tryd.prog w = .ok (x == y) w:=by
 by_cases h : x = y
 · subst h;go_simp
 · go_simp
theorem ky_eqIn (a b c a' b' c' : Int) (w : World) : (Op.equalIn 10000 143 (.agg #[.int .i64 a,.int .i64 b,.int .i64 c]) (.agg #[.int .i64 a',.int .i64 b',.int .i64 c'])).run Tryd.prog w = .ok (a == a' && (b == b' && c == c')) w:=by
 obtain ⟨i,hi⟩:=in3
 rw [run_equalIn_array w 9999 _ _ un143 hi]
 have hr : List.range 3 = [0,1,2]:=by decide
 have p0 : ∀ (x y z : Int) (w : World),(part 3 #[.int .i64 x,.int .i64 y,.int .i64 z] 0).run Tryd.prog w = .ok (.int .i64 x) w:=fun x y z w=>run_part_plain w pk3 rfl
 have p1 : ∀ (x y z : Int) (w : World),(part 3 #[.int .i64 x,.int .i64 y,.int .i64 z] 1).run Tryd.prog w = .ok (.int .i64 y) w:=fun x y z w=>run_part_plain w pk3 rfl
 have p2 : ∀ (x y z : Int) (w : World),(part 3 #[.int .i64 x,.int .i64 y,.int .i64 z] 2).run Tryd.prog w = .ok (.int .i64 z) w:=fun x y z w=>run_part_plain w pk3 rfl
 rw [hr]
 simp only [Op.eqItems,co3,Nat.mul_one,Sem.run_bind,p0,p1,p2,Result.andThen_ok,e3_run]
 by_cases h1 : a = a' <;> by_cases h2 : b = b' <;> by_cases h3 : c = c' <;> simp [h1,h2,h3,Sem.run_bind,p1,p2,e3_run]
set_option maxRecDepth 100000 in
theorem ky_check (q : Ky) (c : Bool) (w : World) : (Instr.checkKey c 10000 143 (kV q)).run Tryd.prog w = .ok () w:=by
 obtain ⟨i,hi⟩:=in3
 have k1 : ∀ (n : Int) (w : World),(Instr.checkKey c 9999 3 (.int .i64 n)).run Tryd.prog w = .ok () w:=fun n w=>run_checkKey un3 (by simp [IsKey]) c 9998
 have p0 : ∀ (x y z : Int) (w : World),(part 3 #[.int .i64 x,.int .i64 y,.int .i64 z] 0).run Tryd.prog w = .ok (.int .i64 x) w:=fun x y z w=>run_part_plain w pk3 rfl
 have p1 : ∀ (x y z : Int) (w : World),(part 3 #[.int .i64 x,.int .i64 y,.int .i64 z] 1).run Tryd.prog w = .ok (.int .i64 y) w:=fun x y z w=>run_part_plain w pk3 rfl
 have p2 : ∀ (x y z : Int) (w : World),(part 3 #[.int .i64 x,.int .i64 y,.int .i64 z] 2).run Tryd.prog w = .ok (.int .i64 z) w:=fun x y z w=>run_part_plain w pk3 rfl
 have hr : List.range' 0 3 = [0,1,2]:=by decide
 unfold kV
 rw [show (10000 : Nat) = 9999 + 1 from rfl,Instr.checkKey]
 simp only [Sem.run_bind,run_underlying un143,Result.andThen_ok]
 simp only [Std.Legacy.Range.forIn_eq_forIn_range',Std.Legacy.Range.size,Nat.sub_zero,Nat.add_one_sub_one,Nat.div_one]
 rw [hr]
 simp only [List.forIn_cons,List.forIn_nil,Sem.run_bind,run_sizeOf w hi,co3,Nat.mul_one,Result.andThen_ok,p0,p1,p2,k1,Sem.run_pure]
theorem keq_ky (p q : Ky) : keq (kV p) (kV q) = decide (p = q):=by
 obtain ⟨a,b,c⟩:=p
 obtain ⟨a',b',c'⟩:=q
 rw [Bool.eq_iff_iff,decide_eq_true_iff]
 simp only [kV,keq,keqL,kql,Ky.mk.injEq,if_true]
 by_cases h1 : a = a' <;> by_cases h2 : b = b' <;> by_cases h3 : c = c' <;> simp [h1,h2,h3]
theorem ky_find (p : Ky) : ∀ (M : List (Value × Value)) (i j : Nat) (w : World),(∀ q ∈ M, ∃ r,q.1 = kV r) → (Instr.findAsking 143 (kV p) (entsOf j M) i).run Tryd.prog w = .ok (findM (kV p) M i) w
 | [],i,j,w,_=>by simp [entsOf,Instr.findAsking,findM]
 | (k, v) :: M,i,j,w,h=>by
  obtain ⟨r,hr⟩:=h (k,v) (by simp)
  simp only at hr
  subst hr
  have ih:=ky_find p M (i + 1) (j + 1) w fun q hq=>h q (by simp [hq])
  have he : (Op.equal 143 (kV p) (kV r)).run Tryd.prog w = .ok (decide (p = r)) w:=by
   unfold Op.equal Op.maxDepth
   obtain ⟨a,b,c⟩:=p
   obtain ⟨a',b',c'⟩:=r
   simp only [kV]
   rw [ky_eqIn]
   congr 1
   rw [Bool.eq_iff_iff,decide_eq_true_iff]
   simp [and_assoc]
  simp only [entsOf,Instr.findAsking,Sem.run_bind,he,Result.andThen_ok,findM,keq_ky]
  cases decide (p = r) with
  | true=>simp
  | false=>simpa using ih
theorem keyOK_ky (p : Ky) (M : List (Value × Value)) (h : ∀ q ∈ M, ∃ r,q.1 = kV r) : KeyOK Tryd.prog 143 (kV p) M:=by
 refine ⟨fun w c=>ky_check p c w,fun w=>?_,fun w k' hk he=>?_⟩
 · rw [run_findKey_eq w (by kernel_rfl) (kV p) (entsOf 0 M)]
   exact ky_find p M 0 0 w h
 · obtain ⟨q,hq,rfl⟩:=List.mem_map.1 hk
   obtain ⟨r,hr⟩:=h q hq
   rw [hr,keq_ky,decide_eq_true_iff] at he
   rw [hr, ← he]
   have hs : Instr.sameBits 10000 (kV p) (kV p) = true:=by
    obtain ⟨a,b,c⟩:=p
    simp [kV,Instr.sameBits]
   simp [Instr.keyThatStays,hs]
def mKf : Nat → List Ky → List (Value × Value)
 | _,[]=>[]
 | n,q :: ks=>(kV q,.int .i64 n) :: mKf (n + 1) ks
def mK (ks : List Ky) : List (Value × Value):=mKf 0 ks
theorem mKf_keys : ∀ (ks : List Ky) (n : Nat), ∀ q ∈ mKf n ks, ∃ r,q.1 = kV r
 | [],_,q,h=>by simp [mKf] at h
 | k :: ks,n,q,h=>by
  simp only [mKf,List.mem_cons] at h
  rcases h with rfl | h
  · exact ⟨k,rfl⟩
  · exact mKf_keys ks _ q h
theorem mK_keys (ks : List Ky) : ∀ q ∈ mK ks, ∃ r,q.1 = kV r:=mKf_keys ks 0
theorem mKf_app : ∀ (ks : List Ky) (n : Nat) (q : Ky),mKf n (ks ++ [q]) = mKf n ks ++ [(kV q,.int .i64 ((n + ks.length : Nat) : Int))]
 | [],n,q=>by simp [mKf]
 | k :: ks,n,q=>by
  simp only [List.cons_append,mKf,mKf_app ks,List.length_cons,show n + 1 + ks.length = n + (ks.length + 1) by omega]
theorem mK_app (ks : List Ky) (q : Ky) : mK (ks ++ [q]) = mK ks ++ [(kV q,.int .i64 (ks.length : Int))]:=by
 simp [mK,mKf_app]
end Go.Proofs.YtgecnlcbdbaneaaDoor
