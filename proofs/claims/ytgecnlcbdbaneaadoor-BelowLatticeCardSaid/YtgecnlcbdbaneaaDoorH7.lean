/- below.both's fits; a symbolic walk. -/
import Derived.Test.YtgecnlcbdbaneaaDoorH4
import Derived.Laws.StructEq
import Derived.WideKeyRuns
-- TYPESA
set_option linter.unusedVariables false
set_option linter.unusedSimpArgs false
namespace Go.Proofs.YtgecnlcbdbaneaaDoor
open Go.RowKit Go.Sw

abbrev dotS : ByteArray:=⟨#[46]⟩
abbrev hatS : ByteArray:=⟨#[94]⟩
def stD (s : ByteArray × Pr) : D:=.agg [sD s.1,iD s.2.a,iD s.2.b,bD s.2.t]
def ixL (l : ByteArray) (ls : List ByteArray) : Int:=idxS l.toList ls 0
def fewL (x y : Nd) : List ByteArray:=if x.k = 6 then y.ls else x.ls
def manyL (x y : Nd) : List ByteArray:=if x.k = 6 then x.ls else y.ls
def lStep (g h : List Nd) (p : Pr) (l : ByteArray) : ByteArray × Pr:=(l,toP g h p (ixL l (ndX g h p).ls) (ixL l (ndY g h p).ls) false)
def fitsP (g h : List Nd) (p : Pr) : Option (List (ByteArray × Pr)) :=
 if (ndX g h p).k ≠ (ndY g h p).k then none else if (ndX g h p).so ≠ (ndY g h p).so then none
 else if (ndX g h p).k = 2 ∨ (ndX g h p).k = 3 then some [(dotS,toP g h p 0 0 false)]
 else if (ndX g h p).k = 4 ∨ (ndX g h p).k = 5 then some [(hatS,toP g h p 0 0 ((ndX g h p).k == 4)),(dotS,toP g h p 1 1 false)]
 else if (fewL (ndX g h p) (ndY g h p)).all (fun l=>inL (manyL (ndX g h p) (ndY g h p)) l) = true then some ((fewL (ndX g h p) (ndY g h p)).map (lStep g h p)) else none
structure NdSh (x : Nd) : Prop where
 one : x.k = 2 ∨ x.k = 3 → 1 ≤ x.to.length
 two : x.k = 4 ∨ x.k = 5 → 2 ≤ x.to.length
 ls : x.ls.length ≤ x.to.length
 l6 : x.ls.length ≤ 6
theorem idx_range {s : List UInt8} : ∀ {l : List ByteArray} {j : Nat},(l.any fun b=>s == b.toList) = true → 0 ≤ idxS s l j ∧ idxS s l j < ((j + l.length : Nat) : Int)
 | b :: l,j,h=>by
  unfold idxS
  by_cases hb : s = b.toList
  · rw [if_pos hb];simp only [List.length_cons];omega
  · rw [if_neg hb]
    simp only [List.any_cons,Bool.or_eq_true,beq_iff_eq] at h
    have:=idx_range (l:=l) (j:=j + 1) (h.resolve_left hb)
    simp only [List.length_cons];omega
end Go.Proofs.YtgecnlcbdbaneaaDoor
/- below.both's why as a plain function; pairs as keys. -/
namespace Go.Proofs.YtgecnlcbdbaneaaDoor
open Go.RowKit Go.Sw Go.MapKept

abbrev Qu:=List (Pr × List ByteArray)
def hasQ (p : Pr) (qu : Qu) : Bool:=qu.any fun q=>decide (p = q.1)
def addQ (path : List ByteArray) (qu : Qu) (s : ByteArray × Pr) : Qu:=if hasQ s.2 qu = true then qu else qu ++ [(s.2,path ++ [s.1])]
def whyF (g h : List Nd) : Nat → Nat → Qu → Option (List ByteArray)
 | 0,_,_=>none
 | f + 1,at',qu=>match qu[at']? with
  | none=>none
  | some (p,path)=>match fitsP g h p with
   | none=>some path
   | some l=>whyF g h f (at' + 1) (l.foldl (addQ path) qu)
def whyP (g h : List Nd) : Option (List ByteArray):=whyF g h (2 * g.length * h.length + 1) 0 [(⟨0,0,false⟩,[])]
structure QI (n m : Nat) (qu : Qu) : Prop where
 nd : (qu.map (·.1)).Nodup
 r : ∀ q ∈ qu,(0 ≤ q.1.a ∧ q.1.a < (n : Int)) ∧ 0 ≤ q.1.b ∧ q.1.b < (m : Int)
 p : ∀ (i : Nat) (q : Pr × List ByteArray),qu[i]? = some q → q.2.length ≤ i
theorem has_mem {p : Pr} {qu : Qu} : hasQ p qu = true ↔ p ∈ qu.map (·.1):=by
 simp only [hasQ,List.any_eq_true,decide_eq_true_iff,List.mem_map]
 constructor
 · rintro ⟨q,h1,h2⟩;exact ⟨q,h1,h2.symm⟩
 · rintro ⟨q,h1,h2⟩;exact ⟨q,h1,h2.symm⟩
theorem QI.add {n m : Nat} {qu : Qu} (h : QI n m qu) {at' : Nat} {path : List ByteArray} (hp : path.length ≤ at') (ha : at' < qu.length) {s : ByteArray × Pr} (hs : (0 ≤ s.2.a ∧ s.2.a < (n : Int)) ∧ 0 ≤ s.2.b ∧ s.2.b < (m : Int)) : QI n m (addQ path qu s):=by
 unfold addQ
 split
 · exact h
 · rename_i hx
   refine ⟨?_,fun q hq=>?_,fun i q hq=>?_⟩
   · rw [List.map_append]
     refine List.nodup_append.2 ⟨h.nd,by simp,fun a h1 b h2 hab=>?_⟩
     obtain rfl : b = s.2:=by simpa using h2
     exact hx (has_mem.2 (hab ▸ h1))
   · rcases List.mem_append.1 hq with hq | hq
     · exact h.r q hq
     · obtain rfl : q = (s.2,path ++ [s.1]):=by simpa using hq
       exact hs
   · by_cases hi : i < qu.length
     · rw [List.getElem?_append_left hi] at hq;exact h.p i q hq
     · rw [List.getElem?_append_right (by omega)] at hq
       by_cases h0 : i - qu.length = 0
       · rw [h0] at hq
         simp at hq
         subst hq
         simp;omega
       · rw [List.getElem?_eq_none (by simp;omega)] at hq;cases hq
theorem QI.len {n m : Nat} {qu : Qu} (h : QI n m qu) : qu.length ≤ 2 * n * m:=by
 have:=pigeon (2 * n * m) (qu.map fun q=>(q.1.a * m + q.1.b) * 2 + (if q.1.t = true then 1 else 0)) ?_ ?_
 · simpa using this
 · rw [List.Nodup,List.pairwise_map]
   have hn:=h.nd
   rw [List.Nodup,List.pairwise_map] at hn
   refine hn.imp_of_mem fun {x y} hx hy hne he=>hne ?_
   obtain ⟨⟨a0,a1⟩,b0,b1⟩:=h.r x hx
   obtain ⟨⟨c0,c1⟩,d0,d1⟩:=h.r y hy
   obtain ⟨⟨xa,xb,xt⟩,xp⟩:=x
   obtain ⟨⟨ya,yb,yt⟩,yp⟩:=y
   simp only at a0 a1 b0 b1 c0 c1 d0 d1 he ⊢
   have ht : xt = yt:=by cases xt <;> cases yt <;> simp at he ⊢ <;> omega
   subst ht
   have e : xa * m + xb = ya * m + yb:=by omega
   have e1 : xa = ya:=by
    have q1 : (xa * m + xb) / m = xa:=by rw [Int.add_comm,Int.add_mul_ediv_right _ _ (by omega),Int.ediv_eq_zero_of_lt b0 b1];omega
    have q2 : (ya * m + yb) / m = ya:=by rw [Int.add_comm,Int.add_mul_ediv_right _ _ (by omega),Int.ediv_eq_zero_of_lt d0 d1];omega
    rw [← q1, ← q2,e]
   subst e1
   have : xb = yb:=by omega
   rw [this]
 · intro v hv
   obtain ⟨x,hx,rfl⟩:=List.mem_map.1 hv
   obtain ⟨⟨a0,a1⟩,b0,b1⟩:=h.r x hx
   have h1 : 0 ≤ x.1.a * (m : Int):=Int.mul_nonneg a0 (by omega)
   have h2 : (x.1.a + 1) * (m : Int) ≤ (n : Int) * (m : Int):=Int.mul_le_mul_of_nonneg_right (by omega) (by omega)
   have h3 : ((2 * n * m : Nat) : Int) = 2 * ((n : Int) * (m : Int)):=by push_cast;rw [Int.mul_assoc]
   rw [h3]
   rw [Int.add_mul] at h2
   split <;> omega
end Go.Proofs.YtgecnlcbdbaneaaDoor
/- below.both's why; a symbolic walk. -/
-- TYPESA
namespace Go.Proofs.YtgecnlcbdbaneaaDoor
open Go.RowKit Go.Sw

theorem valV_agg (cs : List SV) : valV (.agg cs) = (leavesV cs).map fun us=>.agg us.toArray:=rfl
end Go.Proofs.YtgecnlcbdbaneaaDoor
/- below.of, Is, Why; a symbolic walk. -/
-- TYPESA
namespace Go.Proofs.YtgecnlcbdbaneaaDoor
open Go.RowKit Go.Sw

def bErr (x y : Tp) : Int:=if tCheck x = 0 then tCheck y else tCheck x
def OfFn (Γ : Gl) (x : Tp) : Prop:=DFn Tryd.prog Γ 12 [x.d] (.tup [.slc ((ofP x).map Nd.d),iD (tCheck x)])
def bothD (x y : Tp) : D:=if tCheck x = 0 then .agg [.slc ((ofP x).map Nd.d),.slc ((ofP y).map Nd.d)] else .agg [.slc [],.slc []]
set_option maxHeartbeats 8000000 in
set_option maxRecDepth 100000 in
theorem of2_fn (Γ : Gl) (x y : Tp) (hx : OfFn Γ x) (hy : OfFn Γ y) : DFn Tryd.prog Γ 66 [x.d,y.d] (.tup [bothD x y,iD (bErr x y)]):=by
 unfold OfFn at hx hy
 unfold bothD bErr
 generalize (ofP x).map Nd.d = A at hx ⊢
 generalize (ofP y).map Nd.d = B at hy ⊢
 generalize tCheck x = c at hx ⊢
 generalize tCheck y = d at hy ⊢
 obtain ⟨k,so,nm,ls,l⟩:=x
 obtain ⟨k',so',nm',ls',l'⟩:=y
 simp only [Tp.d] at hx hy ⊢
 by_cases hc : c = 0
 · rw [if_pos hc,if_pos hc]
   have g1 : (c != 0) = false:=by simpa using hc
   refine fn_of_swp (N:=28) Tryd.func66 rfl (by decide) rfl rfl (by simp) (fun C h0=>?_)
   simp only [argE]
   repeat' (first|(with_reducible apply zz1)|((with_reducible refine zz4 ?_ ?_);rfl)|((with_reducible refine zz2 ?_ (fun K' hK'=>?_));rfl;simp only [WA,simprocAttr];(repeat (refine And.intro ?_ ?_;focus (clear hK';intros;simp_all;done)));(try (refine hK' _ _ ?_;clear hK' K')))|((with_reducible refine zz3 ?_ ?_);rfl;refine ⟨_,rfl,fun h=>?_,fun h=>?_⟩ <;> try exact absurd h (by decide)))
   refine stop_call h0 rfl (by simp only [WA,simprocAttr]) rfl (by simp only [keepS,Option.isSome_some,WA,simprocAttr]) (hx) ?_
   simp only [WA,simprocAttr,inX,dropS, ]
   (repeat (refine And.intro ?_ ?_;focus (clear hK';intros;simp_all;done)))
   (try (refine hK' _ _ ?_;clear hK' K'))
   repeat' (first|(with_reducible apply zz1)|((with_reducible refine zz4 ?_ ?_);rfl)|((with_reducible refine zz2 ?_ (fun K' hK'=>?_));rfl;simp only [WA,simprocAttr];(repeat (refine And.intro ?_ ?_;focus (clear hK';intros;simp_all;done)));(try (refine hK' _ _ ?_;clear hK' K')))|((with_reducible refine zz3 ?_ ?_);rfl;refine ⟨_,rfl,fun h=>?_,fun h=>?_⟩ <;> try exact absurd h (by decide)))
   refine stop_call h0 rfl (by simp only [WA,simprocAttr]) rfl (by simp only [keepS,Option.isSome_some,WA,simprocAttr]) (hy) ?_
   simp only [WA,simprocAttr,inX,dropS, ]
   (repeat (refine And.intro ?_ ?_;focus (clear hK';intros;simp_all;done)))
   (try (refine hK' _ _ ?_;clear hK' K'))
   repeat' (first|(with_reducible apply zz1)|((with_reducible refine zz4 ?_ ?_);rfl)|((with_reducible refine zz2 ?_ (fun K' hK'=>?_));rfl;simp only [WA,simprocAttr,g1];(repeat (refine And.intro ?_ ?_;focus (clear hK';intros;simp_all;done)));(try (refine hK' _ _ ?_;clear hK' K')))|((with_reducible refine zz3 ?_ ?_);rfl;refine ⟨_,rfl,fun h=>?_,fun h=>?_⟩ <;> try exact absurd h (by decide)))
   simp only [Kret,retL,retOne,oneV,WA,simprocAttr]
 · rw [if_neg hc,if_neg hc]
   have g1 : (c != 0) = true:=by simpa using hc
   refine fn_of_swp (N:=28) Tryd.func66 rfl (by decide) rfl rfl (by simp) (fun C h0=>?_)
   simp only [argE]
   repeat' (first|(with_reducible apply zz1)|((with_reducible refine zz4 ?_ ?_);rfl)|((with_reducible refine zz2 ?_ (fun K' hK'=>?_));rfl;simp only [WA,simprocAttr];(repeat (refine And.intro ?_ ?_;focus (clear hK';intros;simp_all;done)));(try (refine hK' _ _ ?_;clear hK' K')))|((with_reducible refine zz3 ?_ ?_);rfl;refine ⟨_,rfl,fun h=>?_,fun h=>?_⟩ <;> try exact absurd h (by decide)))
   refine stop_call h0 rfl (by simp only [WA,simprocAttr]) rfl (by simp only [keepS,Option.isSome_some,WA,simprocAttr]) (hx) ?_
   simp only [WA,simprocAttr,inX,dropS, ]
   (repeat (refine And.intro ?_ ?_;focus (clear hK';intros;simp_all;done)))
   (try (refine hK' _ _ ?_;clear hK' K'))
   repeat' (first|(with_reducible apply zz1)|((with_reducible refine zz4 ?_ ?_);rfl)|((with_reducible refine zz2 ?_ (fun K' hK'=>?_));rfl;simp only [WA,simprocAttr];(repeat (refine And.intro ?_ ?_;focus (clear hK';intros;simp_all;done)));(try (refine hK' _ _ ?_;clear hK' K')))|((with_reducible refine zz3 ?_ ?_);rfl;refine ⟨_,rfl,fun h=>?_,fun h=>?_⟩ <;> try exact absurd h (by decide)))
   refine stop_call h0 rfl (by simp only [WA,simprocAttr]) rfl (by simp only [keepS,Option.isSome_some,WA,simprocAttr]) (hy) ?_
   simp only [WA,simprocAttr,inX,dropS, ]
   (repeat (refine And.intro ?_ ?_;focus (clear hK';intros;simp_all;done)))
   (try (refine hK' _ _ ?_;clear hK' K'))
   repeat' (first|(with_reducible apply zz1)|((with_reducible refine zz4 ?_ ?_);rfl)|((with_reducible refine zz2 ?_ (fun K' hK'=>?_));rfl;simp only [WA,simprocAttr,g1];(repeat (refine And.intro ?_ ?_;focus (clear hK';intros;simp_all;done)));(try (refine hK' _ _ ?_;clear hK' K')))|((with_reducible refine zz3 ?_ ?_);rfl;refine ⟨_,rfl,fun h=>?_,fun h=>?_⟩ <;> try exact absurd h (by decide)))
   simp only [Kret,retL,retOne,oneV,WA,simprocAttr]
def wyE (x y : Tp) : Int:=if bErr x y = 0 then (match whyP (ofP x) (ofP y) with | some _=>0 | none=>8) else bErr x y
def wyL (x y : Tp) : List ByteArray:=if bErr x y = 0 then (match whyP (ofP x) (ofP y) with | some l=>l | none=>[]) else []
theorem bErr_zero {x y : Tp} (h : bErr x y = 0) : tCheck x = 0 ∧ tCheck y = 0:=by
 unfold bErr at h
 split at h
 · rename_i h1;exact ⟨h1,h⟩
 · rename_i h1;exact absurd h h1
theorem both_shape (x y : Tp) : ∃ A B,bothD x y = .agg [.slc A,.slc B]:=by
 unfold bothD
 split
 · exact ⟨_,_,rfl⟩
 · exact ⟨_,_,rfl⟩
end Go.Proofs.YtgecnlcbdbaneaaDoor
