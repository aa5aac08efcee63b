/- below.of, Is, Why; a symbolic walk. -/
import Derived.Test.YtgecnlcbdbaneaaDoorHQ2
import Derived.Test.YtgecnlcbdbaneaaDoorHP5
-- TYPESA
set_option linter.unusedVariables false
set_option linter.unusedSimpArgs false
namespace Go.Proofs.YtgecnlcbdbaneaaDoor
open Go.RowKit Go.Sw

def bErr (x y : Tp) : Int:=if tCheck x = 0 then tCheck y else tCheck x
def OfFn (Γ : Gl) (x : Tp) : Prop:=DFn Tryd.prog Γ 12 [x.d] (.tup [.slc ((ofP x).map Nd.d),iD (tCheck x)])
def bothD (x y : Tp) : D:=if tCheck x = 0 then .agg [.slc ((ofP x).map Nd.d),.slc ((ofP y).map Nd.d)] else .agg [.slc [],.slc []]
set_option maxHeartbeats 8000000 in
set_option maxRecDepth 100000 in
theorem of2_fn (Γ : Gl) (x y : Tp) (hx : OfFn Γ x) (hy : OfFn Γ y) : DFn Tryd.prog Γ 66 [x.d,y.d] (.tup [bothD x y,iD (bErr x y)]):=by
 unfold OfFn at hx hy
 unfold bothD bErr
 generalize (ofP x).map Nd.d = A at hx ⊢
 generalize (ofP y).map Nd.d = B at hy ⊢
 generalize tCheck x = c at hx ⊢
 generalize tCheck y = d at hy ⊢
 obtain ⟨k,so,nm,ls,l⟩:=x
 obtain ⟨k',so',nm',ls',l'⟩:=y
 simp only [Tp.d] at hx hy ⊢
 by_cases hc : c = 0
 · rw [if_pos hc,if_pos hc]
   have g1 : (c != 0) = false:=by simpa using hc
   refine fn_of_swp (N:=28) Tryd.func66 rfl (by decide) rfl rfl (by simp) (fun C h0=>?_)
   simp only [argE]
   repeat' (first|(with_reducible apply zz1)|((with_reducible refine zz4 ?_ ?_);rfl)|((with_reducible refine zz2 ?_ (fun K' hK'=>?_));rfl;simp only [WA,simprocAttr];(repeat (refine And.intro ?_ ?_;focus (clear hK';intros;simp_all;done)));(try (refine hK' _ _ ?_;clear hK' K')))|((with_reducible refine zz3 ?_ ?_);rfl;refine ⟨_,rfl,fun h=>?_,fun h=>?_⟩ <;> try exact absurd h (by decide)))
   refine stop_call h0 rfl (by simp only [WA,simprocAttr]) rfl (by simp only [keepS,Option.isSome_some,WA,simprocAttr]) (hx) ?_
   simp only [WA,simprocAttr,inX,dropS, ]
   (repeat (refine And.intro ?_ ?_;focus (clear hK';intros;simp_all;done)))
   (try (refine hK' _ _ ?_;clear hK' K'))
   repeat' (first|(with_reducible apply zz1)|((with_reducible refine zz4 ?_ ?_);rfl)|((with_reducible refine zz2 ?_ (fun K' hK'=>?_));rfl;simp only [WA,simprocAttr];(repeat (refine And.intro ?_ ?_;focus (clear hK';intros;simp_all;done)));(try (refine hK' _ _ ?_;clear hK' K')))|((with_reducible refine zz3 ?_ ?_);rfl;refine ⟨_,rfl,fun h=>?_,fun h=>?_⟩ <;> try exact absurd h (by decide)))
   refine stop_call h0 rfl (by simp only [WA,simprocAttr]) rfl (by simp only [keepS,Option.isSome_some,WA,simprocAttr]) (hy) ?_
   simp only [WA,simprocAttr,inX,dropS, ]
   (repeat (refine And.intro ?_ ?_;focus (clear hK';intros;simp_all;done)))
   (try (refine hK' _ _ ?_;clear hK' K'))
   repeat' (first|(with_reducible apply zz1)|((with_reducible refine zz4 ?_ ?_);rfl)|((with_reducible refine zz2 ?_ (fun K' hK'=>?_));rfl;simp only [WA,simprocAttr,g1];(repeat (refine And.intro ?_ ?_;focus (clear hK';intros;simp_all;done)));(try (refine hK' _ _ ?_;clear hK' K')))|((with_reducible refine zz3 ?_ ?_);rfl;refine ⟨_,rfl,fun h=>?_,fun h=>?_⟩ <;> try exact absurd h (by decide)))
   simp only [Kret,retL,retOne,oneV,WA,simprocAttr]
 · rw [if_neg hc,if_neg hc]
   have g1 : (c != 0) = true:=by simpa using hc
   refine fn_of_swp (N:=28) Tryd.func66 rfl (by decide) rfl rfl (by simp) (fun C h0=>?_)
   simp only [argE]
   repeat' (first|(with_reducible apply zz1)|((with_reducible refine zz4 ?_ ?_);rfl)|((with_reducible refine zz2 ?_ (fun K' hK'=>?_));rfl;simp only [WA,simprocAttr];(repeat (refine And.intro ?_ ?_;focus (clear hK';intros;simp_all;done)));(try (refine hK' _ _ ?_;clear hK' K')))|((with_reducible refine zz3 ?_ ?_);rfl;refine ⟨_,rfl,fun h=>?_,fun h=>?_⟩ <;> try exact absurd h (by decide)))
   refine stop_call h0 rfl (by simp only [WA,simprocAttr]) rfl (by simp only [keepS,Option.isSome_some,WA,simprocAttr]) (hx) ?_
   simp only [WA,simprocAttr,inX,dropS, ]
   (repeat (refine And.intro ?_ ?_;focus (clear hK';intros;simp_all;done)))
   (try (refine hK' _ _ ?_;clear hK' K'))
   repeat' (first|(with_reducible apply zz1)|((with_reducible refine zz4 ?_ ?_);rfl)|((with_reducible refine zz2 ?_ (fun K' hK'=>?_));rfl;simp only [WA,simprocAttr];(repeat (refine And.intro ?_ ?_;focus (clear hK';intros;simp_all;done)));(try (refine hK' _ _ ?_;clear hK' K')))|((with_reducible refine zz3 ?_ ?_);rfl;refine ⟨_,rfl,fun h=>?_,fun h=>?_⟩ <;> try exact absurd h (by decide)))
   refine stop_call h0 rfl (by simp only [WA,simprocAttr]) rfl (by simp only [keepS,Option.isSome_some,WA,simprocAttr]) (hy) ?_
   simp only [WA,simprocAttr,inX,dropS, ]
   (repeat (refine And.intro ?_ ?_;focus (clear hK';intros;simp_all;done)))
   (try (refine hK' _ _ ?_;clear hK' K'))
   repeat' (first|(with_reducible apply zz1)|((with_reducible refine zz4 ?_ ?_);rfl)|((with_reducible refine zz2 ?_ (fun K' hK'=>?_));rfl;simp only [WA,simprocAttr,g1];(repeat (refine And.intro ?_ ?_;focus (clear hK';intros;simp_all;done)));(try (refine hK' _ _ ?_;clear hK' K')))|((with_reducible refine zz3 ?_ ?_);rfl;refine ⟨_,rfl,fun h=>?_,fun h=>?_⟩ <;> try exact absurd h (by decide)))
   simp only [Kret,retL,retOne,oneV,WA,simprocAttr]
def wyE (x y : Tp) : Int:=if bErr x y = 0 then (match whyP (ofP x) (ofP y) with | some _=>0 | none=>8) else bErr x y
def wyL (x y : Tp) : List ByteArray:=if bErr x y = 0 then (match whyP (ofP x) (ofP y) with | some l=>l | none=>[]) else []
theorem bErr_zero {x y : Tp} (h : bErr x y = 0) : tCheck x = 0 ∧ tCheck y = 0:=by
 unfold bErr at h
 split at h
 · rename_i h1;exact ⟨h1,h⟩
 · rename_i h1;exact absurd h h1
theorem both_shape (x y : Tp) : ∃ A B,bothD x y = .agg [.slc A,.slc B]:=by
 unfold bothD
 split
 · exact ⟨_,_,rfl⟩
 · exact ⟨_,_,rfl⟩
end Go.Proofs.YtgecnlcbdbaneaaDoor
/- graph.Of, below's Is and Why for all types: the walks and the plain facts joined. -/
namespace Go.Proofs.YtgecnlcbdbaneaaDoor
open Go.RowKit Go.Sw

theorem of_fn (Γ : Gl) (x : Tp) : OfFn Γ x:=by
 refine of_fn0 Γ x (fun h=>?_) (fun h=>?_)
 · have:=raw_good h
   exact ⟨add_all Γ this.1,this.2.1,this.2.2.1⟩
 · obtain ⟨h1,h2,h3,h4,h5,h6⟩:=raw_good h
   have hp:=parted_fn Γ 100 (Nat.le_refl _) (by decide) (fun n h0 h1=>itoa_fn Γ n h0 (by omega)) (rawP x) (by show (rawP x).length ≤ 100;unfold rawP;omega) (fun n hn=>(h6 n hn).ok) (fun cl hl hc=>grow h6 h5 cl hl (fun c h=>by have:=hc c h;omega))
   exact least_fn Γ (rawP x) (by show (rawP x).length ≤ 250;unfold rawP;omega) h4 (fun n hn=>(h6 n hn).ok) (parted_len _) hp
theorem ofP_good {x : Tp} (h : tCheck x = 0) : 0 < (ofP x).length ∧ (ofP x).length ≤ 60 ∧ ∀ n ∈ ofP x,NdG (ofP x).length n:=by
 obtain ⟨h1,h2,h3,h4,h5,h6⟩:=raw_good h
 unfold ofP
 rw [if_pos h]
 have:=least_good (g:=rawP x) h4 h6
 exact ⟨this.1,Nat.le_trans this.2.1 h5,this.2.2⟩
theorem gAt_mem {g : List Nd} {i : Int} (h0 : 0 ≤ i) (h1 : i < (g.length : Int)) : gAt g i ∈ g:=by
 unfold gAt
 rw [List.getD_eq_getElem?_getD,List.getElem?_eq_getElem (by omega),Option.getD_some]
 exact List.getElem_mem _
theorem to_range {g : List Nd} (h0 : 0 < g.length) {n : Nd} (hn : NdG g.length n) (i : Nat) : 0 ≤ n.to.getD i 0 ∧ n.to.getD i 0 < (g.length : Int):=by
 rw [List.getD_eq_getElem?_getD]
 cases h : n.to[i]? with
 | none=>simp only [Option.getD_none];omega
 | some t=>exact hn.ok.r t (List.mem_of_getElem? h)
def sA : Tp:=.mk 2 1 noB [] [.mk 1 0 noB [] []]
def sB : Tp:=.mk 2 1 noB [] [.mk 2 1 noB [] [.mk 1 0 noB [] []]]
theorem first : wyL sA sB = [dotS] ∧ wyE sA sB = 0:=by
 decide +kernel
end Go.Proofs.YtgecnlcbdbaneaaDoor
/- What is below, of trees; below.both's why tells it. -/
namespace Go.Proofs.YtgecnlcbdbaneaaDoor
open Go.RowKit Go.Sw

theorem tl_inj {x y : ByteArray} (h : x.toList = y.toList) : x = y:=by
 rw [Lib.toList_data,Lib.toList_data] at h
 exact bs_inj h
theorem inL_iff {ls : List ByteArray} {x : ByteArray} : inL ls x = true ↔ x ∈ ls:=by
 unfold inL
 rw [List.any_eq_true]
 constructor
 · rintro ⟨b,hb,e⟩
   rw [tl_inj (beq_iff_eq.1 e)];exact hb
 · intro h;exact ⟨x,h,beq_iff_eq.2 rfl⟩
def kid (l : List Tr) (i : Nat) : Tr:=l.getD i .cut
def kidL (ls : List ByteArray) (l : List Tr) (x : ByteArray) : Tr:=kid l (ixL x ls).toNat
def subT : Nat → Tr → Tr → Prop
 | 0,_,_=>True
 | n + 1,.nd k so ls l,.nd k' so' ls' l'=>k = k' ∧ so = so' ∧
     (k = 2 ∨ k = 3 → subT n (kid l 0) (kid l' 0)) ∧
     (k = 4 → subT n (kid l' 0) (kid l 0) ∧ subT n (kid l 1) (kid l' 1)) ∧
     (k = 5 → subT n (kid l 0) (kid l' 0) ∧ subT n (kid l 1) (kid l' 1)) ∧
     (k = 6 → ∀ x ∈ ls',x ∈ ls ∧ subT n (kidL ls l x) (kidL ls' l' x)) ∧
     (¬ (k = 2 ∨ k = 3) → ¬ (k = 4 ∨ k = 5) → k ≠ 6 → ∀ x ∈ ls,x ∈ ls' ∧ subT n (kidL ls l x) (kidL ls' l' x))
 | _ + 1,.cut,.cut=>True
 | _ + 1,.cut,.nd _ _ _ _=>False
 | _ + 1,.nd _ _ _ _,.cut=>False
theorem sub_refl : ∀ (n : Nat) (a : Tr),subT n a a
 | 0,_=>trivial
 | n + 1,.cut=>trivial
 | n + 1,.nd k so ls l=>by
  have h:=sub_refl n
  exact ⟨rfl,rfl,fun _=>h _,fun _=>⟨h _,h _⟩,fun _=>⟨h _,h _⟩,fun _ x hx=>⟨hx,h _⟩,fun _ _ _ x hx=>⟨hx,h _⟩⟩
theorem kid_map {g : List Nd} {n : Nat} {to : List Int} {i : Nat} (h : i < to.length) : kid (to.map (obs g n)) i = obs g n (to.getD i 0):=by
 unfold kid
 simp [List.getD,List.getElem?_eq_getElem h]
theorem ixL_mem {x : ByteArray} {ls : List ByteArray} (h : x ∈ ls) : 0 ≤ ixL x ls ∧ (ixL x ls).toNat < ls.length:=by
 have:=idx_range (s:=x.toList) (l:=ls) (j:=0) (by rw [List.any_eq_true];exact ⟨x,h,beq_iff_eq.2 rfl⟩)
 unfold ixL
 omega
end Go.Proofs.YtgecnlcbdbaneaaDoor
