/- Graphs that are right. -/
import Derived.Test.YtgecnlcbdbaneaaDoorH10
import Derived.Test.YtgecnlcbdbaneaaDoorHQ4
import Derived.Test.YtgecnlcbdbaneaaDoorH17
import Derived.Test.YtgecnlcbdbaneaaDoorU6
import Derived.Test.YtgecnlcbdbaneaaDoorSwD
set_option linter.unusedVariables false
set_option linter.unusedSimpArgs false
namespace Go.Proofs.YtgecnlcbdbaneaaDoor
open Go.RowKit Go.Sw

def endT : Tp:=.mk 1 0 noB [] []
theorem least_sh {g : List Nd} (hg : ∀ n ∈ g,NdG g.length n) (h0 : 0 < g.length) (hs : ShG g) : ShG (leastP g):=by
 obtain ⟨o,a1,a2,a3,a4⟩:=lstF_made (cl:=partedP g) hg (g.length + 1) 0 [0] [] (ord_one h0 _) (by simp) rfl (by omega) (by intro p x v hp;simp at hp)
 intro x hx
 obtain ⟨p,hp,rfl⟩:=List.mem_iff_getElem.1 hx
 have hp' : p < o.length:=by rw [a2];exact hp
 obtain ⟨e1,e2,e3,e4, -⟩:=a4 p _ o[p] (List.getElem?_eq_getElem hp) (List.getElem?_eq_getElem hp')
 have hr:=a1.r o[p] (List.getElem_mem hp')
 have:=hs _ (gAt_mem hr.1 hr.2)
 rw [e1,e2,e3,e4]
 exact this
theorem ofP_sh {x : Tp} (h : tCheck x = 0) : ShG (ofP x):=by
 obtain ⟨-, -, -,h4,h5,h6⟩:=raw_good h
 unfold ofP
 rw [if_pos h]
 exact least_sh (g:=rawP x) h6 h4 (raw_sh h)
structure Gd (g : List Nd) : Prop where
 pos : 0 < g.length
 le : g.length ≤ 200
 ok : ∀ n ∈ g,NdG g.length n
 sh : ShG g
theorem ofP_gd {x : Tp} (h : tCheck x = 0) : Gd (ofP x):=⟨(ofP_good h).1,by have:=(ofP_good h).2.1;omega,(ofP_good h).2.2,ofP_sh h⟩
end Go.Proofs.YtgecnlcbdbaneaaDoor
/- The law BelowOrder; a symbolic walk. -/
-- TYPESA
namespace Go.Proofs.YtgecnlcbdbaneaaDoor
open Go.RowKit Go.Sw

end Go.Proofs.YtgecnlcbdbaneaaDoor
/- dual.Of, below.Graphs, the law BelowDual; a symbolic walk. -/
-- TYPESA
namespace Go.Proofs.YtgecnlcbdbaneaaDoor
open Go.RowKit Go.Sw

def dG (x : Tp) : List Nd:=if tCheck x = 0 then leastP (dualRaw (ofP x)) else []
theorem dG_good {x : Tp} (h : tCheck x = 0) : 0 < (dG x).length ∧ (dG x).length ≤ 120 ∧ (∀ n ∈ dG x,NdG (dG x).length n) ∧ ShG (dG x) ∧ ∀ n,obs (dG x) n 0 = dT n (trT x n):=by
 obtain ⟨a1,a2,a3⟩:=ofP_good h
 have hd:=dual_good a3 (ofP_sh h)
 have hl:=dualRaw_len (ofP x)
 have:=least_good (g:=dualRaw (ofP x)) (by omega) hd.1
 unfold dG
 rw [if_pos h]
 refine ⟨this.1,by omega,this.2.2,least_sh hd.1 (by omega) hd.2,fun n=>?_⟩
 rw [least_obs hd.1 (by omega),obs_dual a3 n 0 (by decide) (by omega),ofP_obs h]
set_option maxHeartbeats 8000000 in
set_option maxRecDepth 100000 in
theorem dOf_fn (Γ : Gl) (hΓ : PowT Γ) (x : Tp) : DFn Tryd.prog Γ 22 [x.d] (.tup [.slc ((dG x).map Nd.d),iD (tCheck x)]):=by
 have ho:=of_fn Γ x
 unfold OfFn at ho
 have hd : tCheck x = 0 → DFn Tryd.prog Γ 27 [.slc ((ofP x).map Nd.d)] (.tup [.slc ((dG x).map Nd.d),iD 0]):=fun h=>by
  obtain ⟨a1,a2,a3⟩:=ofP_good h
  have:=dual_fn Γ hΓ (ofP x) a1 (by omega) a3 (ofP_sh h)
  unfold dG
  rw [if_pos h]
  exact this
 have hz : tCheck x ≠ 0 → (dG x).map Nd.d = []:=fun h=>by unfold dG;rw [if_neg h];rfl
 generalize (dG x).map Nd.d = B at *
 generalize (ofP x).map Nd.d = A at *
 generalize tCheck x = c at *
 obtain ⟨k,so,nm,ls,l⟩:=x
 simp only [Tp.d] at ho ⊢
 by_cases hc : c = 0
 · have hd':=hd hc
   clear hd
   subst hc
   refine fn_of_swp (N:=18) Tryd.func22 rfl (by decide) rfl rfl (by simp) (fun C h0=>?_)
   simp only [argE]
   repeat' (first|(with_reducible apply zz1)|((with_reducible refine zz4 ?_ ?_);rfl)|((with_reducible refine zz2 ?_ (fun K' hK'=>?_));rfl;simp only [WA,simprocAttr];(repeat (refine And.intro ?_ ?_;focus (clear hK';intros;simp_all;done)));(try (refine hK' _ _ ?_;clear hK' K')))|((with_reducible refine zz3 ?_ ?_);rfl;refine ⟨_,rfl,fun h=>?_,fun h=>?_⟩ <;> try exact absurd h (by decide)))
   refine stop_call h0 rfl (by simp only [WA,simprocAttr]) rfl (by simp only [keepS,Option.isSome_some,WA,simprocAttr]) (ho) ?_
   simp only [WA,simprocAttr,inX,dropS, ]
   (repeat (refine And.intro ?_ ?_;focus (clear hK';intros;simp_all;done)))
   (try (refine hK' _ _ ?_;clear hK' K'))
   repeat' (first|(with_reducible apply zz1)|((with_reducible refine zz4 ?_ ?_);rfl)|((with_reducible refine zz2 ?_ (fun K' hK'=>?_));rfl;simp only [WA,simprocAttr,bne_self_eq_false];(repeat (refine And.intro ?_ ?_;focus (clear hK';intros;simp_all;done)));(try (refine hK' _ _ ?_;clear hK' K')))|((with_reducible refine zz3 ?_ ?_);rfl;refine ⟨_,rfl,fun h=>?_,fun h=>?_⟩ <;> try exact absurd h (by decide)))
   refine stop_call h0 rfl (by simp only [WA,simprocAttr]) rfl (by simp only [keepS,Option.isSome_some,WA,simprocAttr]) (hd') ?_
   simp only [WA,simprocAttr,inX,dropS, ]
   (repeat (refine And.intro ?_ ?_;focus (clear hK';intros;simp_all;done)))
   (try (refine hK' _ _ ?_;clear hK' K'))
   repeat' (first|(with_reducible apply zz1)|((with_reducible refine zz4 ?_ ?_);rfl)|((with_reducible refine zz2 ?_ (fun K' hK'=>?_));rfl;simp only [WA,simprocAttr];(repeat (refine And.intro ?_ ?_;focus (clear hK';intros;simp_all;done)));(try (refine hK' _ _ ?_;clear hK' K')))|((with_reducible refine zz3 ?_ ?_);rfl;refine ⟨_,rfl,fun h=>?_,fun h=>?_⟩ <;> try exact absurd h (by decide)))
   simp only [Kret,retL,retOne,oneV,WA,simprocAttr]
 · have g1 : (c != 0) = true:=by simpa using hc
   rw [hz hc]
   refine fn_of_swp (N:=18) Tryd.func22 rfl (by decide) rfl rfl (by simp) (fun C h0=>?_)
   simp only [argE]
   repeat' (first|(with_reducible apply zz1)|((with_reducible refine zz4 ?_ ?_);rfl)|((with_reducible refine zz2 ?_ (fun K' hK'=>?_));rfl;simp only [WA,simprocAttr];(repeat (refine And.intro ?_ ?_;focus (clear hK';intros;simp_all;done)));(try (refine hK' _ _ ?_;clear hK' K')))|((with_reducible refine zz3 ?_ ?_);rfl;refine ⟨_,rfl,fun h=>?_,fun h=>?_⟩ <;> try exact absurd h (by decide)))
   refine stop_call h0 rfl (by simp only [WA,simprocAttr]) rfl (by simp only [keepS,Option.isSome_some,WA,simprocAttr]) (ho) ?_
   simp only [WA,simprocAttr,inX,dropS, ]
   (repeat (refine And.intro ?_ ?_;focus (clear hK';intros;simp_all;done)))
   (try (refine hK' _ _ ?_;clear hK' K'))
   repeat' (first|(with_reducible apply zz1)|((with_reducible refine zz4 ?_ ?_);rfl)|((with_reducible refine zz2 ?_ (fun K' hK'=>?_));rfl;simp only [WA,simprocAttr,g1];(repeat (refine And.intro ?_ ?_;focus (clear hK';intros;simp_all;done)));(try (refine hK' _ _ ?_;clear hK' K')))|((with_reducible refine zz3 ?_ ?_);rfl;refine ⟨_,rfl,fun h=>?_,fun h=>?_⟩ <;> try exact absurd h (by decide)))
   simp only [Kret,retL,retOne,oneV,WA,simprocAttr]
set_option maxHeartbeats 8000000 in
set_option maxRecDepth 100000 in
theorem graphs_fn (Γ : Gl) (a b : List Nd) (a0 : 0 < a.length) (b0 : 0 < b.length) (a1 : a.length ≤ 200) (b1 : b.length ≤ 200) (ha : ∀ n ∈ a,NdG a.length n) (hb : ∀ n ∈ b,NdG b.length n) (sa : ShG a) (sb : ShG b) :
 DFn Tryd.prog Γ 25 [.slc (a.map Nd.d),.slc (b.map Nd.d)] (.tup [bD (whyP a b).isNone,iD 0]):=by
 have hc1:=gcheck_fn Γ a a0 a1 ha sa
 have hc2:=gcheck_fn Γ b b0 b1 hb sb
 have hw:=why_fn Γ a b (by omega) (by omega) a0 b0 (fits_ok a0 b0 ha hb)
 generalize whyP a b = r at *
 generalize a.map Nd.d = A at *
 generalize b.map Nd.d = B at *
 cases r with
 | none =>
  simp only [whyA] at hw
  refine fn_of_swp (N:=29) Tryd.func25 rfl (by decide) rfl rfl (by simp) (fun C h0=>?_)
  simp only [argE]
  repeat' (first|(with_reducible apply zz1)|((with_reducible refine zz4 ?_ ?_);rfl)|((with_reducible refine zz2 ?_ (fun K' hK'=>?_));rfl;simp only [WA,simprocAttr];(repeat (refine And.intro ?_ ?_;focus (clear hK';intros;simp_all;done)));(try (refine hK' _ _ ?_;clear hK' K')))|((with_reducible refine zz3 ?_ ?_);rfl;refine ⟨_,rfl,fun h=>?_,fun h=>?_⟩ <;> try exact absurd h (by decide)))
  refine stop_callF rfl (by simp only [WA,simprocAttr]) rfl rfl (hc1) ?_
  simp only [WA,simprocAttr,inX,dropS,bne_self_eq_false]
  (repeat (refine And.intro ?_ ?_;focus (clear hK';intros;simp_all;done)))
  (try (refine hK' _ _ ?_;clear hK' K'))
  repeat' (first|(with_reducible apply zz1)|((with_reducible refine zz4 ?_ ?_);rfl)|((with_reducible refine zz2 ?_ (fun K' hK'=>?_));rfl;simp only [WA,simprocAttr,bne_self_eq_false];(repeat (refine And.intro ?_ ?_;focus (clear hK';intros;simp_all;done)));(try (refine hK' _ _ ?_;clear hK' K')))|((with_reducible refine zz3 ?_ ?_);rfl;refine ⟨_,rfl,fun h=>?_,fun h=>?_⟩ <;> try exact absurd h (by decide)))
  refine stop_callF rfl (by simp only [WA,simprocAttr]) rfl rfl (hc2) ?_
  simp only [WA,simprocAttr,inX,dropS,bne_self_eq_false]
  (repeat (refine And.intro ?_ ?_;focus (clear hK';intros;simp_all;done)))
  (try (refine hK' _ _ ?_;clear hK' K'))
  repeat' (first|(with_reducible apply zz1)|((with_reducible refine zz4 ?_ ?_);rfl)|((with_reducible refine zz2 ?_ (fun K' hK'=>?_));rfl;simp only [WA,simprocAttr,bne_self_eq_false];(repeat (refine And.intro ?_ ?_;focus (clear hK';intros;simp_all;done)));(try (refine hK' _ _ ?_;clear hK' K')))|((with_reducible refine zz3 ?_ ?_);rfl;refine ⟨_,rfl,fun h=>?_,fun h=>?_⟩ <;> try exact absurd h (by decide)))
  refine stop_call h0 rfl (by simp only [WA,simprocAttr]) rfl (by simp only [keepS,Option.isSome_some,WA,simprocAttr]) (hw) ?_
  simp only [WA,simprocAttr,inX,dropS, ]
  (repeat (refine And.intro ?_ ?_;focus (clear hK';intros;simp_all;done)))
  (try (refine hK' _ _ ?_;clear hK' K'))
  repeat' (first|(with_reducible apply zz1)|((with_reducible refine zz4 ?_ ?_);rfl)|((with_reducible refine zz2 ?_ (fun K' hK'=>?_));rfl;simp only [WA,simprocAttr];(repeat (refine And.intro ?_ ?_;focus (clear hK';intros;simp_all;done)));(try (refine hK' _ _ ?_;clear hK' K')))|((with_reducible refine zz3 ?_ ?_);rfl;refine ⟨_,rfl,fun h=>?_,fun h=>?_⟩ <;> try exact absurd h (by decide)))
  simp only [Kret,retL,retOne,oneV,WA,simprocAttr]
  rfl
 | some w =>
  simp only [whyA] at hw
  refine fn_of_swp (N:=29) Tryd.func25 rfl (by decide) rfl rfl (by simp) (fun C h0=>?_)
  simp only [argE]
  repeat' (first|(with_reducible apply zz1)|((with_reducible refine zz4 ?_ ?_);rfl)|((with_reducible refine zz2 ?_ (fun K' hK'=>?_));rfl;simp only [WA,simprocAttr];(repeat (refine And.intro ?_ ?_;focus (clear hK';intros;simp_all;done)));(try (refine hK' _ _ ?_;clear hK' K')))|((with_reducible refine zz3 ?_ ?_);rfl;refine ⟨_,rfl,fun h=>?_,fun h=>?_⟩ <;> try exact absurd h (by decide)))
  refine stop_callF rfl (by simp only [WA,simprocAttr]) rfl rfl (hc1) ?_
  simp only [WA,simprocAttr,inX,dropS,bne_self_eq_false]
  (repeat (refine And.intro ?_ ?_;focus (clear hK';intros;simp_all;done)))
  (try (refine hK' _ _ ?_;clear hK' K'))
  repeat' (first|(with_reducible apply zz1)|((with_reducible refine zz4 ?_ ?_);rfl)|((with_reducible refine zz2 ?_ (fun K' hK'=>?_));rfl;simp only [WA,simprocAttr,bne_self_eq_false];(repeat (refine And.intro ?_ ?_;focus (clear hK';intros;simp_all;done)));(try (refine hK' _ _ ?_;clear hK' K')))|((with_reducible refine zz3 ?_ ?_);rfl;refine ⟨_,rfl,fun h=>?_,fun h=>?_⟩ <;> try exact absurd h (by decide)))
  refine stop_callF rfl (by simp only [WA,simprocAttr]) rfl rfl (hc2) ?_
  simp only [WA,simprocAttr,inX,dropS,bne_self_eq_false]
  (repeat (refine And.intro ?_ ?_;focus (clear hK';intros;simp_all;done)))
  (try (refine hK' _ _ ?_;clear hK' K'))
  repeat' (first|(with_reducible apply zz1)|((with_reducible refine zz4 ?_ ?_);rfl)|((with_reducible refine zz2 ?_ (fun K' hK'=>?_));rfl;simp only [WA,simprocAttr,bne_self_eq_false];(repeat (refine And.intro ?_ ?_;focus (clear hK';intros;simp_all;done)));(try (refine hK' _ _ ?_;clear hK' K')))|((with_reducible refine zz3 ?_ ?_);rfl;refine ⟨_,rfl,fun h=>?_,fun h=>?_⟩ <;> try exact absurd h (by decide)))
  refine stop_call h0 rfl (by simp only [WA,simprocAttr]) rfl (by simp only [keepS,Option.isSome_some,WA,simprocAttr]) (hw) ?_
  simp only [WA,simprocAttr,inX,dropS, ]
  (repeat (refine And.intro ?_ ?_;focus (clear hK';intros;simp_all;done)))
  (try (refine hK' _ _ ?_;clear hK' K'))
  repeat' (first|(with_reducible apply zz1)|((with_reducible refine zz4 ?_ ?_);rfl)|((with_reducible refine zz2 ?_ (fun K' hK'=>?_));rfl;simp only [WA,simprocAttr];(repeat (refine And.intro ?_ ?_;focus (clear hK';intros;simp_all;done)));(try (refine hK' _ _ ?_;clear hK' K')))|((with_reducible refine zz3 ?_ ?_);rfl;refine ⟨_,rfl,fun h=>?_,fun h=>?_⟩ <;> try exact absurd h (by decide)))
  simp only [Kret,retL,retOne,oneV,WA,simprocAttr]
  rfl
end Go.Proofs.YtgecnlcbdbaneaaDoor
/- comply.at; a symbolic walk. -/
-- TYPESB
namespace Go.Proofs.YtgecnlcbdbaneaaDoor
open Go.RowKit Go.Sw

def swI (k i : Int) : Int:=if i = 0 then k else if i = k then 0 else i
def atNd (g : List Nd) (k : Int) (i : Nat) : Nd:=⟨(gAt g (swI k i)).k,(gAt g (swI k i)).so,(gAt g (swI k i)).ls,(gAt g (swI k i)).to.map (swI k)⟩
def atP (g : List Nd) (k : Int) : List Nd:=(List.range g.length).map (atNd g k)
theorem info72 : ∃ i,Tryd.prog.info? 82 = some i ∧ i.zero = some (.agg #[.int .i64 0,.int .i64 0,.slice none 0 0,.slice none 0 0]) ∧ i.size = 4 ∧ i.bytes = 64:=by
 have h : (Tryd.prog.info? 82).map (fun i=>(i.zero,i.size,i.bytes)) = some (some (.agg #[.int .i64 0,.int .i64 0,.slice none 0 0,.slice none 0 0]),4,64):=by kernel_rfl
 obtain ⟨i,hi,hz⟩:=Option.map_eq_some_iff.1 h
 simp only [Prod.mk.injEq] at hz
 exact ⟨i,hi,hz.1,hz.2.1,hz.2.2⟩
theorem swI_range {g : List Nd} {k i : Int} (h0 : 0 < g.length) (hk : 0 ≤ k ∧ k < (g.length : Int)) (hi : 0 ≤ i ∧ i < (g.length : Int)) : 0 ≤ swI k i ∧ swI k i < (g.length : Int):=by
 unfold swI
 split
 · exact hk
 · split
   · omega
   · exact hi
end Go.Proofs.YtgecnlcbdbaneaaDoor
/- comply.meets at a choice; a symbolic walk. -/
-- TYPESB
namespace Go.Proofs.YtgecnlcbdbaneaaDoor
open Go.RowKit Go.Sw

structure Pc where
 a : Int
 b : Int
deriving DecidableEq
def Pc.d (p : Pc) : D:=.agg [iD p.a,iD p.b]
def subG (g h : List Nd) : Bool:=(whyP g h).isNone
theorem atP_len (g : List Nd) (k : Int) : (atP g k).length = g.length:=by simp [atP]
theorem atP_good {g : List Nd} {k : Int} (h0 : 0 < g.length) (hk : 0 ≤ k ∧ k < (g.length : Int)) (hg : ∀ n ∈ g,NdG g.length n) (hs : ShG g) : (∀ n ∈ atP g k,NdG (atP g k).length n) ∧ ShG (atP g k):=by
 have key : ∀ n ∈ atP g k, ∃ m ∈ g,n = ⟨m.k,m.so,m.ls,m.to.map (swI k)⟩:=fun n hn=>by
  obtain ⟨i,hi,rfl⟩:=List.mem_map.1 hn
  have hi:=List.mem_range.1 hi
  have hr:=swI_range h0 hk (i:=(i : Int)) ⟨by omega,by omega⟩
  exact ⟨_,gAt_mem hr.1 hr.2,rfl⟩
 constructor
 · intro n hn
   obtain ⟨m,hm,rfl⟩:=key n hn
   have gm:=hg m hm
   rw [atP_len]
   refine ⟨⟨gm.ok.k,gm.ok.so,gm.ok.ls,gm.ok.lb,by simp only [List.length_map];exact gm.ok.to,fun t ht=>?_⟩,⟨fun h=>by simp only [List.length_map];exact gm.sh.one h,fun h=>by simp only [List.length_map];exact gm.sh.two h,by simp only [List.length_map];exact gm.sh.ls,gm.sh.l6⟩,gm.nm⟩
   obtain ⟨u,hu,rfl⟩:=List.mem_map.1 ht
   exact swI_range h0 hk (gm.ok.r u hu)
 · intro n hn
   obtain ⟨m,hm,rfl⟩:=key n hn
   simp only [List.length_map]
   exact hs m hm
theorem Gd.at {g : List Nd} (h : Gd g) {k : Int} (hk : 0 ≤ k ∧ k < (g.length : Int)) : Gd (atP g k) :=
 ⟨by rw [atP_len];exact h.pos,by rw [atP_len];exact h.le,(atP_good h.pos hk h.ok h.sh).1,(atP_good h.pos hk h.ok h.sh).2⟩
theorem graphsG_fn (Γ : Gl) {a b : List Nd} (ha : Gd a) (hb : Gd b) : DFn Tryd.prog Γ 25 [.slc (a.map Nd.d),.slc (b.map Nd.d)] (.tup [bD (subG a b),iD 0]):=graphs_fn Γ a b ha.pos hb.pos ha.le hb.le ha.ok hb.ok ha.sh hb.sh
end Go.Proofs.YtgecnlcbdbaneaaDoor
/- comply.meets; a symbolic walk. -/
-- TYPESB
namespace Go.Proofs.YtgecnlcbdbaneaaDoor
open Go.RowKit Go.Sw

end Go.Proofs.YtgecnlcbdbaneaaDoor
