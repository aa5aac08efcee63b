/- dual.Graph of a graph that is right; a symbolic walk. -/
import Derived.Test.YtgecnlcbdbaneaaDoorH16
import Derived.Test.YtgecnlcbdbaneaaDoorKV1
import Derived.Test.YtgecnlcbdbaneaaDoorShelfJ
import Derived.Test.YtgecnlcbdbaneaaDoorH10
import Derived.Test.YtgecnlcbdbaneaaDoorHQ4
import Derived.Test.YtgecnlcbdbaneaaDoorU6
import Derived.Test.YtgecnlcbdbaneaaDoorSwD
import Derived.Laws.StructEq
import Derived.WideKeyRuns
-- TYPESA
set_option linter.unusedVariables false
set_option linter.unusedSimpArgs false
namespace Go.Proofs.YtgecnlcbdbaneaaDoor
open Go.RowKit Go.Sw

end Go.Proofs.YtgecnlcbdbaneaaDoor
/- Graphs that are right. -/
namespace Go.Proofs.YtgecnlcbdbaneaaDoor
open Go.RowKit Go.Sw

def endT : Tp:=.mk 1 0 noB [] []
theorem least_sh {g : List Nd} (hg : ∀ n ∈ g,NdG g.length n) (h0 : 0 < g.length) (hs : ShG g) : ShG (leastP g):=by
 obtain ⟨o,a1,a2,a3,a4⟩:=lstF_made (cl:=partedP g) hg (g.length + 1) 0 [0] [] (ord_one h0 _) (by simp) rfl (by omega) (by intro p x v hp;simp at hp)
 intro x hx
 obtain ⟨p,hp,rfl⟩:=List.mem_iff_getElem.1 hx
 have hp' : p < o.length:=by rw [a2];exact hp
 obtain ⟨e1,e2,e3,e4, -⟩:=a4 p _ o[p] (List.getElem?_eq_getElem hp) (List.getElem?_eq_getElem hp')
 have hr:=a1.r o[p] (List.getElem_mem hp')
 have:=hs _ (gAt_mem hr.1 hr.2)
 rw [e1,e2,e3,e4]
 exact this
theorem ofP_sh {x : Tp} (h : tCheck x = 0) : ShG (ofP x):=by
 obtain ⟨-, -, -,h4,h5,h6⟩:=raw_good h
 unfold ofP
 rw [if_pos h]
 exact least_sh (g:=rawP x) h6 h4 (raw_sh h)
structure Gd (g : List Nd) : Prop where
 pos : 0 < g.length
 le : g.length ≤ 200
 ok : ∀ n ∈ g,NdG g.length n
 sh : ShG g
theorem ofP_gd {x : Tp} (h : tCheck x = 0) : Gd (ofP x):=⟨(ofP_good h).1,by have:=(ofP_good h).2.1;omega,(ofP_good h).2.2,ofP_sh h⟩
end Go.Proofs.YtgecnlcbdbaneaaDoor
/- The law BelowOrder; a symbolic walk. -/
-- TYPESA
namespace Go.Proofs.YtgecnlcbdbaneaaDoor
open Go.RowKit Go.Sw

end Go.Proofs.YtgecnlcbdbaneaaDoor
/- dual.Of, below.Graphs, the law BelowDual; a symbolic walk. -/
-- TYPESA
namespace Go.Proofs.YtgecnlcbdbaneaaDoor
open Go.RowKit Go.Sw

set_option maxHeartbeats 8000000 in
set_option maxRecDepth 100000 in
theorem graphs_fn (Γ : Gl) (a b : List Nd) (a0 : 0 < a.length) (b0 : 0 < b.length) (a1 : a.length ≤ 200) (b1 : b.length ≤ 200) (ha : ∀ n ∈ a,NdG a.length n) (hb : ∀ n ∈ b,NdG b.length n) (sa : ShG a) (sb : ShG b) :
 DFn Tryd.prog Γ 25 [.slc (a.map Nd.d),.slc (b.map Nd.d)] (.tup [bD (whyP a b).isNone,iD 0]):=by
 have hc1:=gcheck_fn Γ a a0 a1 ha sa
 have hc2:=gcheck_fn Γ b b0 b1 hb sb
 have hw:=why_fn Γ a b (by omega) (by omega) a0 b0 (fits_ok a0 b0 ha hb)
 generalize whyP a b = r at *
 generalize a.map Nd.d = A at *
 generalize b.map Nd.d = B at *
 cases r with
 | none =>
  simp only [whyA] at hw
  refine fn_of_swp (N:=29) Tryd.func25 rfl (by decide) rfl rfl (by simp) (fun C h0=>?_)
  simp only [argE]
  repeat' (first|(with_reducible apply zz1)|((with_reducible apply zz2);rfl;intro K' hK';simp only [WA,simprocAttr];(repeat (constructor;focus (clear hK';intros;simp_all;done)));(try (apply hK';clear hK' K')))|((with_reducible apply zz3);rfl;all_goals (intro h;try exact absurd h (by decide))))
  refine stop_callF rfl (by simp only [WA,simprocAttr]) rfl rfl (hc1) ?_
  simp only [WA,simprocAttr,inX,dropS,bne_self_eq_false]
  (repeat (constructor;focus (clear hK';intros;simp_all;done)))
  (try (apply hK';clear hK' K'))
  repeat' (first|(with_reducible apply zz1)|((with_reducible apply zz2);rfl;intro K' hK';simp only [WA,simprocAttr,bne_self_eq_false];(repeat (constructor;focus (clear hK';intros;simp_all;done)));(try (apply hK';clear hK' K')))|((with_reducible apply zz3);rfl;all_goals (intro h;try exact absurd h (by decide))))
  refine stop_callF rfl (by simp only [WA,simprocAttr]) rfl rfl (hc2) ?_
  simp only [WA,simprocAttr,inX,dropS,bne_self_eq_false]
  (repeat (constructor;focus (clear hK';intros;simp_all;done)))
  (try (apply hK';clear hK' K'))
  repeat' (first|(with_reducible apply zz1)|((with_reducible apply zz2);rfl;intro K' hK';simp only [WA,simprocAttr,bne_self_eq_false];(repeat (constructor;focus (clear hK';intros;simp_all;done)));(try (apply hK';clear hK' K')))|((with_reducible apply zz3);rfl;all_goals (intro h;try exact absurd h (by decide))))
  refine stop_call h0 rfl (by simp only [WA,simprocAttr]) rfl (by simp only [keepS,Option.isSome_some,WA,simprocAttr]) (hw) ?_
  simp only [WA,simprocAttr,inX,dropS, ]
  (repeat (constructor;focus (clear hK';intros;simp_all;done)))
  (try (apply hK';clear hK' K'))
  repeat' (first|(with_reducible apply zz1)|((with_reducible apply zz2);rfl;intro K' hK';simp only [WA,simprocAttr];(repeat (constructor;focus (clear hK';intros;simp_all;done)));(try (apply hK';clear hK' K')))|((with_reducible apply zz3);rfl;all_goals (intro h;try exact absurd h (by decide))))
  simp only [Kret,retL,retOne,oneV,WA,simprocAttr]
  rfl
 | some w =>
  simp only [whyA] at hw
  refine fn_of_swp (N:=29) Tryd.func25 rfl (by decide) rfl rfl (by simp) (fun C h0=>?_)
  simp only [argE]
  repeat' (first|(with_reducible apply zz1)|((with_reducible apply zz2);rfl;intro K' hK';simp only [WA,simprocAttr];(repeat (constructor;focus (clear hK';intros;simp_all;done)));(try (apply hK';clear hK' K')))|((with_reducible apply zz3);rfl;all_goals (intro h;try exact absurd h (by decide))))
  refine stop_callF rfl (by simp only [WA,simprocAttr]) rfl rfl (hc1) ?_
  simp only [WA,simprocAttr,inX,dropS,bne_self_eq_false]
  (repeat (constructor;focus (clear hK';intros;simp_all;done)))
  (try (apply hK';clear hK' K'))
  repeat' (first|(with_reducible apply zz1)|((with_reducible apply zz2);rfl;intro K' hK';simp only [WA,simprocAttr,bne_self_eq_false];(repeat (constructor;focus (clear hK';intros;simp_all;done)));(try (apply hK';clear hK' K')))|((with_reducible apply zz3);rfl;all_goals (intro h;try exact absurd h (by decide))))
  refine stop_callF rfl (by simp only [WA,simprocAttr]) rfl rfl (hc2) ?_
  simp only [WA,simprocAttr,inX,dropS,bne_self_eq_false]
  (repeat (constructor;focus (clear hK';intros;simp_all;done)))
  (try (apply hK';clear hK' K'))
  repeat' (first|(with_reducible apply zz1)|((with_reducible apply zz2);rfl;intro K' hK';simp only [WA,simprocAttr,bne_self_eq_false];(repeat (constructor;focus (clear hK';intros;simp_all;done)));(try (apply hK';clear hK' K')))|((with_reducible apply zz3);rfl;all_goals (intro h;try exact absurd h (by decide))))
  refine stop_call h0 rfl (by simp only [WA,simprocAttr]) rfl (by simp only [keepS,Option.isSome_some,WA,simprocAttr]) (hw) ?_
  simp only [WA,simprocAttr,inX,dropS, ]
  (repeat (constructor;focus (clear hK';intros;simp_all;done)))
  (try (apply hK';clear hK' K'))
  repeat' (first|(with_reducible apply zz1)|((with_reducible apply zz2);rfl;intro K' hK';simp only [WA,simprocAttr];(repeat (constructor;focus (clear hK';intros;simp_all;done)));(try (apply hK';clear hK' K')))|((with_reducible apply zz3);rfl;all_goals (intro h;try exact absurd h (by decide))))
  simp only [Kret,retL,retOne,oneV,WA,simprocAttr]
  rfl
end Go.Proofs.YtgecnlcbdbaneaaDoor
/- comply.at; a symbolic walk. -/
-- TYPESB
namespace Go.Proofs.YtgecnlcbdbaneaaDoor
open Go.RowKit Go.Sw

def swI (k i : Int) : Int:=if i = 0 then k else if i = k then 0 else i
def atNd (g : List Nd) (k : Int) (i : Nat) : Nd:=⟨(gAt g (swI k i)).k,(gAt g (swI k i)).so,(gAt g (swI k i)).ls,(gAt g (swI k i)).to.map (swI k)⟩
def atP (g : List Nd) (k : Int) : List Nd:=(List.range g.length).map (atNd g k)
theorem info72 : ∃ i,Tryd.prog.info? 82 = some i ∧ i.zero = some (.agg #[.int .i64 0,.int .i64 0,.slice none 0 0,.slice none 0 0]) ∧ i.size = 4 ∧ i.bytes = 64:=by
 have h : (Tryd.prog.info? 82).map (fun i=>(i.zero,i.size,i.bytes)) = some (some (.agg #[.int .i64 0,.int .i64 0,.slice none 0 0,.slice none 0 0]),4,64):=by kernel_rfl
 obtain ⟨i,hi,hz⟩:=Option.map_eq_some_iff.1 h
 simp only [Prod.mk.injEq] at hz
 exact ⟨i,hi,hz.1,hz.2.1,hz.2.2⟩
theorem swI_range {g : List Nd} {k i : Int} (h0 : 0 < g.length) (hk : 0 ≤ k ∧ k < (g.length : Int)) (hi : 0 ≤ i ∧ i < (g.length : Int)) : 0 ≤ swI k i ∧ swI k i < (g.length : Int):=by
 unfold swI
 split
 · exact hk
 · split
   · omega
   · exact hi
end Go.Proofs.YtgecnlcbdbaneaaDoor
/- comply.meets at a choice; a symbolic walk. -/
-- TYPESB
namespace Go.Proofs.YtgecnlcbdbaneaaDoor
open Go.RowKit Go.Sw

structure Pc where
 a : Int
 b : Int
deriving DecidableEq
def Pc.d (p : Pc) : D:=.agg [iD p.a,iD p.b]
def subG (g h : List Nd) : Bool:=(whyP g h).isNone
theorem atP_len (g : List Nd) (k : Int) : (atP g k).length = g.length:=by simp [atP]
theorem atP_good {g : List Nd} {k : Int} (h0 : 0 < g.length) (hk : 0 ≤ k ∧ k < (g.length : Int)) (hg : ∀ n ∈ g,NdG g.length n) (hs : ShG g) : (∀ n ∈ atP g k,NdG (atP g k).length n) ∧ ShG (atP g k):=by
 have key : ∀ n ∈ atP g k, ∃ m ∈ g,n = ⟨m.k,m.so,m.ls,m.to.map (swI k)⟩:=fun n hn=>by
  obtain ⟨i,hi,rfl⟩:=List.mem_map.1 hn
  have hi:=List.mem_range.1 hi
  have hr:=swI_range h0 hk (i:=(i : Int)) ⟨by omega,by omega⟩
  exact ⟨_,gAt_mem hr.1 hr.2,rfl⟩
 constructor
 · intro n hn
   obtain ⟨m,hm,rfl⟩:=key n hn
   have gm:=hg m hm
   rw [atP_len]
   refine ⟨⟨gm.ok.k,gm.ok.so,gm.ok.ls,gm.ok.lb,by simp only [List.length_map];exact gm.ok.to,fun t ht=>?_⟩,⟨fun h=>by simp only [List.length_map];exact gm.sh.one h,fun h=>by simp only [List.length_map];exact gm.sh.two h,by simp only [List.length_map];exact gm.sh.ls,gm.sh.l6⟩,gm.nm⟩
   obtain ⟨u,hu,rfl⟩:=List.mem_map.1 ht
   exact swI_range h0 hk (gm.ok.r u hu)
 · intro n hn
   obtain ⟨m,hm,rfl⟩:=key n hn
   simp only [List.length_map]
   exact hs m hm
theorem Gd.at {g : List Nd} (h : Gd g) {k : Int} (hk : 0 ≤ k ∧ k < (g.length : Int)) : Gd (atP g k) :=
 ⟨by rw [atP_len];exact h.pos,by rw [atP_len];exact h.le,(atP_good h.pos hk h.ok h.sh).1,(atP_good h.pos hk h.ok h.sh).2⟩
theorem graphsG_fn (Γ : Gl) {a b : List Nd} (ha : Gd a) (hb : Gd b) : DFn Tryd.prog Γ 25 [.slc (a.map Nd.d),.slc (b.map Nd.d)] (.tup [bD (subG a b),iD 0]):=graphs_fn Γ a b ha.pos hb.pos ha.le hb.le ha.ok hb.ok ha.sh hb.sh
end Go.Proofs.YtgecnlcbdbaneaaDoor
/- comply.meets; a symbolic walk. -/
-- TYPESB
namespace Go.Proofs.YtgecnlcbdbaneaaDoor
open Go.RowKit Go.Sw

end Go.Proofs.YtgecnlcbdbaneaaDoor
/- comply.stuck as a plain function; its pairs as keys (turned from HP4). -/
namespace Go.Proofs.YtgecnlcbdbaneaaDoor
open Go.RowKit Go.Sw Go.MapKept

abbrev Quc:=List (Pc × List ByteArray)
def hasC (p : Pc) (qu : Quc) : Bool:=qu.any fun q=>decide (p = q.1)
def addC (path : List ByteArray) (qu : Quc) (s : ByteArray × Pc) : Quc:=if hasC s.2 qu = true then qu else qu ++ [(s.2,path ++ [s.1])]
structure QC (n m : Nat) (qu : Quc) : Prop where
 nd : (qu.map (·.1)).Nodup
 r : ∀ q ∈ qu,(0 ≤ q.1.a ∧ q.1.a < (n : Int)) ∧ 0 ≤ q.1.b ∧ q.1.b < (m : Int)
 p : ∀ (i : Nat) (q : Pc × List ByteArray),qu[i]? = some q → q.2.length ≤ i
theorem hasC_mem {p : Pc} {qu : Quc} : hasC p qu = true ↔ p ∈ qu.map (·.1):=by
 simp only [hasC,List.any_eq_true,decide_eq_true_iff,List.mem_map]
 constructor
 · rintro ⟨q,h1,h2⟩;exact ⟨q,h1,h2.symm⟩
 · rintro ⟨q,h1,h2⟩;exact ⟨q,h1,h2.symm⟩
theorem QC.add {n m : Nat} {qu : Quc} (h : QC n m qu) {at' : Nat} {path : List ByteArray} (hp : path.length ≤ at') (ha : at' < qu.length) {s : ByteArray × Pc} (hs : (0 ≤ s.2.a ∧ s.2.a < (n : Int)) ∧ 0 ≤ s.2.b ∧ s.2.b < (m : Int)) : QC n m (addC path qu s):=by
 unfold addC
 split
 · exact h
 · rename_i hx
   refine ⟨?_,fun q hq=>?_,fun i q hq=>?_⟩
   · rw [List.map_append]
     refine List.nodup_append.2 ⟨h.nd,by simp,fun a h1 b h2 hab=>?_⟩
     obtain rfl : b = s.2:=by simpa using h2
     exact hx (hasC_mem.2 (hab ▸ h1))
   · rcases List.mem_append.1 hq with hq | hq
     · exact h.r q hq
     · obtain rfl : q = (s.2,path ++ [s.1]):=by simpa using hq
       exact hs
   · by_cases hi : i < qu.length
     · rw [List.getElem?_append_left hi] at hq;exact h.p i q hq
     · rw [List.getElem?_append_right (by omega)] at hq
       by_cases h0 : i - qu.length = 0
       · rw [h0] at hq
         simp at hq
         subst hq
         simp;omega
       · rw [List.getElem?_eq_none (by simp;omega)] at hq;cases hq
theorem addC_len (path : List ByteArray) (qu : Quc) (s : ByteArray × Pc) : qu.length ≤ (addC path qu s).length:=by
 unfold addC
 split <;> simp
theorem QC.adds {n m : Nat} {at' : Nat} {path : List ByteArray} (hp : path.length ≤ at') : ∀ {l : List (ByteArray × Pc)} {qu : Quc},QC n m qu → at' < qu.length → (∀ s ∈ l,(0 ≤ s.2.a ∧ s.2.a < (n : Int)) ∧ 0 ≤ s.2.b ∧ s.2.b < (m : Int)) → QC n m (l.foldl (addC path) qu)
 | [],qu,h,_,_=>h
 | s :: l,qu,h,ha,hl=>QC.adds hp (l:=l) (h.add hp ha (hl s (by simp))) (by have:=addC_len path qu s;omega) fun x hx=>hl x (by simp [hx])
theorem QC.len {n m : Nat} {qu : Quc} (h : QC n m qu) : qu.length ≤ n * m:=by
 have:=pigeon (n * m) (qu.map fun q=>q.1.a * m + q.1.b) ?_ ?_
 · simpa using this
 · rw [List.Nodup,List.pairwise_map]
   have hn:=h.nd
   rw [List.Nodup,List.pairwise_map] at hn
   refine hn.imp_of_mem fun {x y} hx hy hne he=>hne ?_
   obtain ⟨⟨a0,a1⟩,b0,b1⟩:=h.r x hx
   obtain ⟨⟨c0,c1⟩,d0,d1⟩:=h.r y hy
   obtain ⟨⟨xa,xb⟩,xp⟩:=x
   obtain ⟨⟨ya,yb⟩,yp⟩:=y
   simp only at a0 a1 b0 b1 c0 c1 d0 d1 he ⊢
   have e : xa * m + xb = ya * m + yb:=he
   have e1 : xa = ya:=by
    have q1 : (xa * m + xb) / m = xa:=by rw [Int.add_comm,Int.add_mul_ediv_right _ _ (by omega),Int.ediv_eq_zero_of_lt b0 b1];omega
    have q2 : (ya * m + yb) / m = ya:=by rw [Int.add_comm,Int.add_mul_ediv_right _ _ (by omega),Int.ediv_eq_zero_of_lt d0 d1];omega
    rw [← q1, ← q2,e]
   subst e1
   have : xb = yb:=by omega
   rw [this]
 · intro v hv
   obtain ⟨x,hx,rfl⟩:=List.mem_map.1 hv
   obtain ⟨⟨a0,a1⟩,b0,b1⟩:=h.r x hx
   have h1 : 0 ≤ x.1.a * (m : Int):=Int.mul_nonneg a0 (by omega)
   have h2 : (x.1.a + 1) * (m : Int) ≤ (n : Int) * (m : Int):=Int.mul_le_mul_of_nonneg_right (by omega) (by omega)
   have h3 : ((n * m : Nat) : Int) = (n : Int) * (m : Int):=by push_cast;rfl
   rw [h3]
   rw [Int.add_mul] at h2
   omega
end Go.Proofs.YtgecnlcbdbaneaaDoor
/- comply.stuck; a symbolic walk (turned from H8). -/
-- TYPESB
namespace Go.Proofs.YtgecnlcbdbaneaaDoor
open Go.RowKit Go.Sw

end Go.Proofs.YtgecnlcbdbaneaaDoor
/- comply.of, Do, the law ComplyBelow; a symbolic walk. -/
-- TYPESB
namespace Go.Proofs.YtgecnlcbdbaneaaDoor
open Go.RowKit Go.Sw

end Go.Proofs.YtgecnlcbdbaneaaDoor
