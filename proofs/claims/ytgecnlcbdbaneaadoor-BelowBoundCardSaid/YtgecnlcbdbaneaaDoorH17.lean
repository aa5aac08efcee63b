/- dual.Graph of a graph that is right; a symbolic walk. -/
import Derived.Test.YtgecnlcbdbaneaaDoorH16
import Derived.Test.YtgecnlcbdbaneaaDoorShelfJ
import Derived.Test.YtgecnlcbdbaneaaDoorKD0
import Derived.Test.YtgecnlcbdbaneaaDoorHQ4
import Derived.Test.YtgecnlcbdbaneaaDoorTB
import Derived.Test.YtgecnlcbdbaneaaDoorSwD
-- TYPESA
set_option linter.unusedVariables false
set_option linter.unusedSimpArgs false
namespace Go.Proofs.YtgecnlcbdbaneaaDoor
open Go.RowKit Go.Sw

def PowT (Γ : Gl) : Prop := ∀ w, Γ.G w → Lib.TabIs Tryd.prog w "internal/strconv.uint64pow10" .u64 Lib.pow10Tab
theorem itoa_any (Γ : Gl) (hΓ : PowT Γ) (n : Int) (h0 : 0 ≤ n) (h1 : n < 1000) : DFn Tryd.prog Γ 83 [iD n] (sD (numS n)) :=
 dfn_of (by kernel_rfl) rfl rfl fun w h=>by
  have:=Tryd.strconv_Itoa n (by omega) (by omega) w (hΓ w h)
  have e : (⟨(Lib.itoa n).toArray⟩ : ByteArray) = numS n:=by
   unfold numS packS Lib.itoa
   rw [if_neg (by omega)]
  rw [e] at this
  exact this.mono fun e w' ⟨he,k,os,hw⟩=>⟨he,by
   subst hw
   exact ⟨rfl,rfl,rfl,by simp [Go.Sort.grow],fun b hb=>by simp only [Go.Sort.grow];exact Array.getElem?_append_left (by simpa using hb)⟩⟩
theorem grow2 {g : List Nd} (hg : ∀ n ∈ g,NdG g.length n) (cl : List Int) (hl : cl.length = g.length) : (allK (keysF cl 0 g)).length ≤ (allK (keysF (nxtK (keysF cl 0 g)) 0 g)).length:=by
 have l1:=keysF_len cl g 0
 have l2:=keysF_len (nxtK (keysF cl 0 g)) g 0
 refine (cnt_lists (by rw [l1,l2]) fun i j hi hj e=>?_).1
 rw [l1] at hi hj
 rw [keysF_get _ g 0 i g[i] (List.getElem?_eq_getElem hi),keysF_get _ g 0 j g[j] (List.getElem?_eq_getElem hj),Nat.zero_add,Nat.zero_add] at e
 have hk:=key_inj (fun c hc=>(nxtK_range _ c hc).1) (hg _ (List.getElem_mem hi)) (hg _ (List.getElem_mem hj)) (Option.some.inj e)
 have cls : ∀ i (hi : i < (keysF cl 0 g).length),(nxtK (keysF cl 0 g)).getD i 0 = plK ((keysF cl 0 g)[i]) (allK (keysF cl 0 g)):=fun i hi=>by
  unfold nxtK
  rw [List.getD_eq_getElem?_getD,List.getElem?_map,List.getElem?_eq_getElem hi];rfl
 have hc:=hk.2.2.2.1
 rw [cls i (by omega),cls j (by omega)] at hc
 rw [List.getElem?_eq_getElem (by omega),List.getElem?_eq_getElem (by omega),plK_inj (List.getElem_mem _) (List.getElem_mem _) hc]
theorem leastL_fn (Γ : Gl) (hΓ : PowT Γ) (g : List Nd) (h0 : 0 < g.length) (h2 : g.length ≤ 200) (hg : ∀ n ∈ g,NdG g.length n) : DFn Tryd.prog Γ 46 [.slc (g.map Nd.d)] (.slc ((leastP g).map Nd.d)):=by
 have hp:=parted_fn Γ 250 (by decide) (by decide) (fun n h0 h1=>itoa_any Γ hΓ n h0 (by omega)) g (by omega) (fun n hn=>(hg n hn).ok) (fun cl hl hc=>grow2 hg cl hl)
 exact least_fn Γ g (by omega) h0 (fun n hn=>(hg n hn).ok) (parted_len _) hp
set_option maxHeartbeats 4000000 in
set_option maxRecDepth 100000 in
theorem least2_fn (Γ : Gl) (hΓ : PowT Γ) (g : List Nd) (h0g : 0 < g.length) (h2 : g.length ≤ 200) (hg : ∀ n ∈ g,NdG g.length n) (hs : ShG g) : DFn Tryd.prog Γ 65 [.slc (g.map Nd.d)] (.tup [.slc ((leastP g).map Nd.d),iD 0]):=by
 have hc:=gcheck_fn Γ g h0g h2 hg hs
 have hl:=leastL_fn Γ hΓ g h0g h2 hg
 generalize g.map Nd.d = A at *
 generalize (leastP g).map Nd.d = B at *
 refine fn_of_swp (N:=12) Tryd.func65 rfl (by decide) rfl rfl (by simp) (fun C h0=>?_)
 simp only [argE]
 repeat' (first|(with_reducible apply zz1)|((with_reducible refine zz4 ?_ ?_);rfl)|((with_reducible refine zz2 ?_ (fun K' hK'=>?_));rfl;simp only [WA,simprocAttr];(repeat (refine And.intro ?_ ?_;focus (clear hK';intros;simp_all;done)));(try (refine hK' _ _ ?_;clear hK' K')))|((with_reducible refine zz3 ?_ ?_);rfl;refine ⟨_,rfl,fun h=>?_,fun h=>?_⟩ <;> try exact absurd h (by decide)))
 refine stop_callF rfl (by simp only [WA,simprocAttr]) rfl rfl (hc) ?_
 simp only [WA,simprocAttr,inX,dropS,bne_self_eq_false]
 (repeat (refine And.intro ?_ ?_;focus (clear hK';intros;simp_all;done)))
 (try (refine hK' _ _ ?_;clear hK' K'))
 repeat' (first|(with_reducible apply zz1)|((with_reducible refine zz4 ?_ ?_);rfl)|((with_reducible refine zz2 ?_ (fun K' hK'=>?_));rfl;simp only [WA,simprocAttr,bne_self_eq_false];(repeat (refine And.intro ?_ ?_;focus (clear hK';intros;simp_all;done)));(try (refine hK' _ _ ?_;clear hK' K')))|((with_reducible refine zz3 ?_ ?_);rfl;refine ⟨_,rfl,fun h=>?_,fun h=>?_⟩ <;> try exact absurd h (by decide)))
 refine stop_call h0 rfl (by simp only [WA,simprocAttr]) rfl (by simp only [keepS,WA,simprocAttr]) (hl) ?_
 simp only [WA,simprocAttr,inX,dropS, ]
 (repeat (refine And.intro ?_ ?_;focus (clear hK';intros;simp_all;done)))
 (try (refine hK' _ _ ?_;clear hK' K'))
 repeat' (first|(with_reducible apply zz1)|((with_reducible refine zz4 ?_ ?_);rfl)|((with_reducible refine zz2 ?_ (fun K' hK'=>?_));rfl;simp only [WA,simprocAttr];(repeat (refine And.intro ?_ ?_;focus (clear hK';intros;simp_all;done)));(try (refine hK' _ _ ?_;clear hK' K')))|((with_reducible refine zz3 ?_ ?_);rfl;refine ⟨_,rfl,fun h=>?_,fun h=>?_⟩ <;> try exact absurd h (by decide)))
 simp only [Kret,retL,retOne,oneV,WA,simprocAttr]
end Go.Proofs.YtgecnlcbdbaneaaDoor
/- The law BelowOrder; a symbolic walk. -/
-- TYPESA
namespace Go.Proofs.YtgecnlcbdbaneaaDoor
open Go.RowKit Go.Sw

end Go.Proofs.YtgecnlcbdbaneaaDoor
/- dual.Of, below.Graphs, the law BelowDual; a symbolic walk. -/
-- TYPESA
namespace Go.Proofs.YtgecnlcbdbaneaaDoor
open Go.RowKit Go.Sw

set_option maxHeartbeats 8000000 in
set_option maxRecDepth 100000 in
theorem graphs_fn (Γ : Gl) (a b : List Nd) (a0 : 0 < a.length) (b0 : 0 < b.length) (a1 : a.length ≤ 200) (b1 : b.length ≤ 200) (ha : ∀ n ∈ a,NdG a.length n) (hb : ∀ n ∈ b,NdG b.length n) (sa : ShG a) (sb : ShG b) :
 DFn Tryd.prog Γ 25 [.slc (a.map Nd.d),.slc (b.map Nd.d)] (.tup [bD (whyP a b).isNone,iD 0]):=by
 have hc1:=gcheck_fn Γ a a0 a1 ha sa
 have hc2:=gcheck_fn Γ b b0 b1 hb sb
 have hw:=why_fn Γ a b (by omega) (by omega) a0 b0 (fits_ok a0 b0 ha hb)
 generalize whyP a b = r at *
 generalize a.map Nd.d = A at *
 generalize b.map Nd.d = B at *
 cases r with
 | none =>
  simp only [whyA] at hw
  refine fn_of_swp (N:=29) Tryd.func25 rfl (by decide) rfl rfl (by simp) (fun C h0=>?_)
  simp only [argE]
  repeat' (first|(with_reducible apply zz1)|((with_reducible refine zz4 ?_ ?_);rfl)|((with_reducible refine zz2 ?_ (fun K' hK'=>?_));rfl;simp only [WA,simprocAttr];(repeat (refine And.intro ?_ ?_;focus (clear hK';intros;simp_all;done)));(try (refine hK' _ _ ?_;clear hK' K')))|((with_reducible refine zz3 ?_ ?_);rfl;refine ⟨_,rfl,fun h=>?_,fun h=>?_⟩ <;> try exact absurd h (by decide)))
  refine stop_callF rfl (by simp only [WA,simprocAttr]) rfl rfl (hc1) ?_
  simp only [WA,simprocAttr,inX,dropS,bne_self_eq_false]
  (repeat (refine And.intro ?_ ?_;focus (clear hK';intros;simp_all;done)))
  (try (refine hK' _ _ ?_;clear hK' K'))
  repeat' (first|(with_reducible apply zz1)|((with_reducible refine zz4 ?_ ?_);rfl)|((with_reducible refine zz2 ?_ (fun K' hK'=>?_));rfl;simp only [WA,simprocAttr,bne_self_eq_false];(repeat (refine And.intro ?_ ?_;focus (clear hK';intros;simp_all;done)));(try (refine hK' _ _ ?_;clear hK' K')))|((with_reducible refine zz3 ?_ ?_);rfl;refine ⟨_,rfl,fun h=>?_,fun h=>?_⟩ <;> try exact absurd h (by decide)))
  refine stop_callF rfl (by simp only [WA,simprocAttr]) rfl rfl (hc2) ?_
  simp only [WA,simprocAttr,inX,dropS,bne_self_eq_false]
  (repeat (refine And.intro ?_ ?_;focus (clear hK';intros;simp_all;done)))
  (try (refine hK' _ _ ?_;clear hK' K'))
  repeat' (first|(with_reducible apply zz1)|((with_reducible refine zz4 ?_ ?_);rfl)|((with_reducible refine zz2 ?_ (fun K' hK'=>?_));rfl;simp only [WA,simprocAttr,bne_self_eq_false];(repeat (refine And.intro ?_ ?_;focus (clear hK';intros;simp_all;done)));(try (refine hK' _ _ ?_;clear hK' K')))|((with_reducible refine zz3 ?_ ?_);rfl;refine ⟨_,rfl,fun h=>?_,fun h=>?_⟩ <;> try exact absurd h (by decide)))
  refine stop_call h0 rfl (by simp only [WA,simprocAttr]) rfl (by simp only [keepS,WA,simprocAttr]) (hw) ?_
  simp only [WA,simprocAttr,inX,dropS, ]
  (repeat (refine And.intro ?_ ?_;focus (clear hK';intros;simp_all;done)))
  (try (refine hK' _ _ ?_;clear hK' K'))
  repeat' (first|(with_reducible apply zz1)|((with_reducible refine zz4 ?_ ?_);rfl)|((with_reducible refine zz2 ?_ (fun K' hK'=>?_));rfl;simp only [WA,simprocAttr];(repeat (refine And.intro ?_ ?_;focus (clear hK';intros;simp_all;done)));(try (refine hK' _ _ ?_;clear hK' K')))|((with_reducible refine zz3 ?_ ?_);rfl;refine ⟨_,rfl,fun h=>?_,fun h=>?_⟩ <;> try exact absurd h (by decide)))
  simp only [Kret,retL,retOne,oneV,WA,simprocAttr]
  rfl
 | some w =>
  simp only [whyA] at hw
  refine fn_of_swp (N:=29) Tryd.func25 rfl (by decide) rfl rfl (by simp) (fun C h0=>?_)
  simp only [argE]
  repeat' (first|(with_reducible apply zz1)|((with_reducible refine zz4 ?_ ?_);rfl)|((with_reducible refine zz2 ?_ (fun K' hK'=>?_));rfl;simp only [WA,simprocAttr];(repeat (refine And.intro ?_ ?_;focus (clear hK';intros;simp_all;done)));(try (refine hK' _ _ ?_;clear hK' K')))|((with_reducible refine zz3 ?_ ?_);rfl;refine ⟨_,rfl,fun h=>?_,fun h=>?_⟩ <;> try exact absurd h (by decide)))
  refine stop_callF rfl (by simp only [WA,simprocAttr]) rfl rfl (hc1) ?_
  simp only [WA,simprocAttr,inX,dropS,bne_self_eq_false]
  (repeat (refine And.intro ?_ ?_;focus (clear hK';intros;simp_all;done)))
  (try (refine hK' _ _ ?_;clear hK' K'))
  repeat' (first|(with_reducible apply zz1)|((with_reducible refine zz4 ?_ ?_);rfl)|((with_reducible refine zz2 ?_ (fun K' hK'=>?_));rfl;simp only [WA,simprocAttr,bne_self_eq_false];(repeat (refine And.intro ?_ ?_;focus (clear hK';intros;simp_all;done)));(try (refine hK' _ _ ?_;clear hK' K')))|((with_reducible refine zz3 ?_ ?_);rfl;refine ⟨_,rfl,fun h=>?_,fun h=>?_⟩ <;> try exact absurd h (by decide)))
  refine stop_callF rfl (by simp only [WA,simprocAttr]) rfl rfl (hc2) ?_
  simp only [WA,simprocAttr,inX,dropS,bne_self_eq_false]
  (repeat (refine And.intro ?_ ?_;focus (clear hK';intros;simp_all;done)))
  (try (refine hK' _ _ ?_;clear hK' K'))
  repeat' (first|(with_reducible apply zz1)|((with_reducible refine zz4 ?_ ?_);rfl)|((with_reducible refine zz2 ?_ (fun K' hK'=>?_));rfl;simp only [WA,simprocAttr,bne_self_eq_false];(repeat (refine And.intro ?_ ?_;focus (clear hK';intros;simp_all;done)));(try (refine hK' _ _ ?_;clear hK' K')))|((with_reducible refine zz3 ?_ ?_);rfl;refine ⟨_,rfl,fun h=>?_,fun h=>?_⟩ <;> try exact absurd h (by decide)))
  refine stop_call h0 rfl (by simp only [WA,simprocAttr]) rfl (by simp only [keepS,WA,simprocAttr]) (hw) ?_
  simp only [WA,simprocAttr,inX,dropS, ]
  (repeat (refine And.intro ?_ ?_;focus (clear hK';intros;simp_all;done)))
  (try (refine hK' _ _ ?_;clear hK' K'))
  repeat' (first|(with_reducible apply zz1)|((with_reducible refine zz4 ?_ ?_);rfl)|((with_reducible refine zz2 ?_ (fun K' hK'=>?_));rfl;simp only [WA,simprocAttr];(repeat (refine And.intro ?_ ?_;focus (clear hK';intros;simp_all;done)));(try (refine hK' _ _ ?_;clear hK' K')))|((with_reducible refine zz3 ?_ ?_);rfl;refine ⟨_,rfl,fun h=>?_,fun h=>?_⟩ <;> try exact absurd h (by decide)))
  simp only [Kret,retL,retOne,oneV,WA,simprocAttr]
  rfl
end Go.Proofs.YtgecnlcbdbaneaaDoor
/- comply.at; a symbolic walk. -/
-- TYPESB
namespace Go.Proofs.YtgecnlcbdbaneaaDoor
open Go.RowKit Go.Sw

def swI (k i : Int) : Int:=if i = 0 then k else if i = k then 0 else i
def atNd (g : List Nd) (k : Int) (i : Nat) : Nd:=⟨(gAt g (swI k i)).k,(gAt g (swI k i)).so,(gAt g (swI k i)).ls,(gAt g (swI k i)).to.map (swI k)⟩
def atP (g : List Nd) (k : Int) : List Nd:=(List.range g.length).map (atNd g k)
theorem swI_range {g : List Nd} {k i : Int} (h0 : 0 < g.length) (hk : 0 ≤ k ∧ k < (g.length : Int)) (hi : 0 ≤ i ∧ i < (g.length : Int)) : 0 ≤ swI k i ∧ swI k i < (g.length : Int):=by
 unfold swI
 split
 · exact hk
 · split
   · omega
   · exact hi
end Go.Proofs.YtgecnlcbdbaneaaDoor
/- comply.meets at a choice; a symbolic walk. -/
-- TYPESB
namespace Go.Proofs.YtgecnlcbdbaneaaDoor
open Go.RowKit Go.Sw

structure Pc where
 a : Int
 b : Int
deriving DecidableEq
def Pc.d (p : Pc) : D:=.agg [iD p.a,iD p.b]
def subG (g h : List Nd) : Bool:=(whyP g h).isNone
theorem atP_len (g : List Nd) (k : Int) : (atP g k).length = g.length:=by simp [atP]
theorem atP_good {g : List Nd} {k : Int} (h0 : 0 < g.length) (hk : 0 ≤ k ∧ k < (g.length : Int)) (hg : ∀ n ∈ g,NdG g.length n) (hs : ShG g) : (∀ n ∈ atP g k,NdG (atP g k).length n) ∧ ShG (atP g k):=by
 have key : ∀ n ∈ atP g k, ∃ m ∈ g,n = ⟨m.k,m.so,m.ls,m.to.map (swI k)⟩:=fun n hn=>by
  obtain ⟨i,hi,rfl⟩:=List.mem_map.1 hn
  have hi:=List.mem_range.1 hi
  have hr:=swI_range h0 hk (i:=(i : Int)) ⟨by omega,by omega⟩
  exact ⟨_,gAt_mem hr.1 hr.2,rfl⟩
 constructor
 · intro n hn
   obtain ⟨m,hm,rfl⟩:=key n hn
   have gm:=hg m hm
   rw [atP_len]
   refine ⟨⟨gm.ok.k,gm.ok.so,gm.ok.ls,gm.ok.lb,by simp only [List.length_map];exact gm.ok.to,fun t ht=>?_⟩,⟨fun h=>by simp only [List.length_map];exact gm.sh.one h,fun h=>by simp only [List.length_map];exact gm.sh.two h,by simp only [List.length_map];exact gm.sh.ls,gm.sh.l6⟩,gm.nm⟩
   obtain ⟨u,hu,rfl⟩:=List.mem_map.1 ht
   exact swI_range h0 hk (gm.ok.r u hu)
 · intro n hn
   obtain ⟨m,hm,rfl⟩:=key n hn
   simp only [List.length_map]
   exact hs m hm
theorem Gd.at {g : List Nd} (h : Gd g) {k : Int} (hk : 0 ≤ k ∧ k < (g.length : Int)) : Gd (atP g k) :=
 ⟨by rw [atP_len];exact h.pos,by rw [atP_len];exact h.le,(atP_good h.pos hk h.ok h.sh).1,(atP_good h.pos hk h.ok h.sh).2⟩
theorem graphsG_fn (Γ : Gl) {a b : List Nd} (ha : Gd a) (hb : Gd b) : DFn Tryd.prog Γ 25 [.slc (a.map Nd.d),.slc (b.map Nd.d)] (.tup [bD (subG a b),iD 0]):=graphs_fn Γ a b ha.pos hb.pos ha.le hb.le ha.ok hb.ok ha.sh hb.sh
end Go.Proofs.YtgecnlcbdbaneaaDoor
/- comply.meets; a symbolic walk. -/
-- TYPESB
namespace Go.Proofs.YtgecnlcbdbaneaaDoor
open Go.RowKit Go.Sw

end Go.Proofs.YtgecnlcbdbaneaaDoor
