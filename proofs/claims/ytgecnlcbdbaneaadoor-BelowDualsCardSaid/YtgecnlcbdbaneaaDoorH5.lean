/- graph.Of; a symbolic walk. -/
import Derived.Test.YtgecnlcbdbaneaaDoorH4
-- TYPESA
set_option linter.unusedVariables false
set_option linter.unusedSimpArgs false
namespace Go.Proofs.YtgecnlcbdbaneaaDoor
open Go.RowKit Go.Sw

def rawP (x : Tp) : List Nd:=(addT x [] [] []).2
def ofP (x : Tp) : List Nd:=if tCheck x = 0 then leastP (rawP x) else []
set_option maxHeartbeats 8000000 in
set_option maxRecDepth 100000 in
theorem of_fn0 (Γ : Gl) (x : Tp) (hadd : tCheck x = 0 → AddS Γ x ∧ clT x [] ∧ x.size ≤ 60) (hls : tCheck x = 0 → DFn Tryd.prog Γ 46 [.slc ((rawP x).map Nd.d)] (.slc ((leastP (rawP x)).map Nd.d))) :
 DFn Tryd.prog Γ 12 [x.d] (.tup [.slc ((ofP x).map Nd.d),iD (tCheck x)]):=by
 have hck:=TCheck_fn Γ x
 unfold ofP
 by_cases hc : tCheck x = 0
 · rw [if_pos hc]
   obtain ⟨h1,h2,h3⟩:=hadd hc
   have hl:=hls hc
   have ha : SFn Tryd.prog Γ 45 [.ref 1 0,.d x.d,.d (.slc []),.d (.slc [])] [(1,.cells [.own 2]),(2,.row 4 [])] (.d (iD (addT x [] [] []).1)) [(1,.cells [.own 2]),(2,.row 4 ((addT x [] [] []).2.map Nd.d))]:=(h1 [] [] [] rfl (by simp;omega) (by simp;omega) h2).up 1
   unfold rawP at hl ⊢
   generalize addT x [] [] [] = A at ha hl
   obtain ⟨n,G⟩:=A
   simp only at ha hl ⊢
   rw [hc] at hck ⊢
   generalize leastP G = R at hl ⊢
   obtain ⟨k,so,nm,ls,l⟩:=x
   simp only [Tp.d] at hck ha ⊢
   clear h1 h2 h3 hadd hls hc
   refine fn_of_swp (N:=21) Tryd.func12 rfl (by decide) rfl rfl (by simp) (fun C h0=>?_)
   simp only [argE]
   repeat' (first|(with_reducible apply zz1)|((with_reducible refine zz4 ?_ ?_);rfl)|((with_reducible refine zz2 ?_ (fun K' hK'=>?_));rfl;simp only [WA,simprocAttr];(repeat (refine And.intro ?_ ?_;focus (clear hK';intros;simp_all;done)));(try (refine hK' _ _ ?_;clear hK' K')))|((with_reducible refine zz3 ?_ ?_);rfl;refine ⟨_,rfl,fun h=>?_,fun h=>?_⟩ <;> try exact absurd h (by decide)))
   refine stop_callF rfl (by simp only [WA,simprocAttr]) rfl rfl (hck) ?_
   simp only [WA,simprocAttr,inX,dropS, ]
   (repeat (refine And.intro ?_ ?_;focus (clear hK';intros;simp_all;done)))
   (try (refine hK' _ _ ?_;clear hK' K'))
   repeat' (first|(with_reducible apply zz1)|((with_reducible refine zz4 ?_ ?_);rfl)|((with_reducible refine zz2 ?_ (fun K' hK'=>?_));rfl;simp only [WA,simprocAttr];(repeat (refine And.intro ?_ ?_;focus (clear hK';intros;simp_all;done)));(try (refine hK' _ _ ?_;clear hK' K')))|((with_reducible refine zz3 ?_ ?_);rfl;refine ⟨_,rfl,fun h=>?_,fun h=>?_⟩ <;> try exact absurd h (by decide)))
   refine stop_sub (sub_nilB 1 0 2 4 rfl rfl rfl (by decide)) ?_
   simp only [WA,simprocAttr]
   refine stop_cS rfl (by simp only [UA,WA,simprocAttr]) (ha) ?_
   simp only [WA,simprocAttr,UM, ]
   (try (refine hK' _ _ ?_;clear hK' K'))
   repeat' (first|(with_reducible apply zz1)|((with_reducible refine zz4 ?_ ?_);rfl)|((with_reducible refine zz2 ?_ (fun K' hK'=>?_));rfl;simp only [WA,simprocAttr];(repeat (refine And.intro ?_ ?_;focus (clear hK';intros;simp_all;done)));(try (refine hK' _ _ ?_;clear hK' K')))|((with_reducible refine zz3 ?_ ?_);rfl;refine ⟨_,rfl,fun h=>?_,fun h=>?_⟩ <;> try exact absurd h (by decide)))
   refine stop_frz [2] h0 (by simp only [Option.isSome_some,UF,WA,simprocAttr]) ?_
   simp only [WA,simprocAttr,UF]
   refine stop_call h0 rfl (by simp only [WA,simprocAttr]) rfl (by simp only [keepS,Option.isSome_some,WA,simprocAttr]) (hl) ?_
   simp only [WA,simprocAttr,inX,dropS, ]
   (repeat (refine And.intro ?_ ?_;focus (clear hK';intros;simp_all;done)))
   (try (refine hK' _ _ ?_;clear hK' K'))
   repeat' (first|(with_reducible apply zz1)|((with_reducible refine zz4 ?_ ?_);rfl)|((with_reducible refine zz2 ?_ (fun K' hK'=>?_));rfl;simp only [WA,simprocAttr];(repeat (refine And.intro ?_ ?_;focus (clear hK';intros;simp_all;done)));(try (refine hK' _ _ ?_;clear hK' K')))|((with_reducible refine zz3 ?_ ?_);rfl;refine ⟨_,rfl,fun h=>?_,fun h=>?_⟩ <;> try exact absurd h (by decide)))
   simp only [Kret,retL,retOne,oneV,WA,simprocAttr]
 · rw [if_neg hc]
   have g1 : (tCheck x != 0) = true:=by simpa using hc
   generalize tCheck x = r at hck g1 ⊢
   clear hadd hls hc
   obtain ⟨k,so,nm,ls,l⟩:=x
   simp only [Tp.d] at hck ⊢
   refine fn_of_swp (N:=21) Tryd.func12 rfl (by decide) rfl rfl (by simp) (fun C h0=>?_)
   simp only [argE]
   repeat' (first|(with_reducible apply zz1)|((with_reducible refine zz4 ?_ ?_);rfl)|((with_reducible refine zz2 ?_ (fun K' hK'=>?_));rfl;simp only [WA,simprocAttr];(repeat (refine And.intro ?_ ?_;focus (clear hK';intros;simp_all;done)));(try (refine hK' _ _ ?_;clear hK' K')))|((with_reducible refine zz3 ?_ ?_);rfl;refine ⟨_,rfl,fun h=>?_,fun h=>?_⟩ <;> try exact absurd h (by decide)))
   refine stop_callF rfl (by simp only [WA,simprocAttr]) rfl rfl (hck) ?_
   simp only [WA,simprocAttr,inX,dropS, ]
   (repeat (refine And.intro ?_ ?_;focus (clear hK';intros;simp_all;done)))
   (try (refine hK' _ _ ?_;clear hK' K'))
   repeat' (first|(with_reducible apply zz1)|((with_reducible refine zz4 ?_ ?_);rfl)|((with_reducible refine zz2 ?_ (fun K' hK'=>?_));rfl;simp only [WA,simprocAttr,g1];(repeat (refine And.intro ?_ ?_;focus (clear hK';intros;simp_all;done)));(try (refine hK' _ _ ?_;clear hK' K')))|((with_reducible refine zz3 ?_ ?_);rfl;refine ⟨_,rfl,fun h=>?_,fun h=>?_⟩ <;> try exact absurd h (by decide)))
   simp only [Kret,retL,retOne,oneV,WA,simprocAttr,List.map_nil]
end Go.Proofs.YtgecnlcbdbaneaaDoor
/- below.both's nodes and fits; a symbolic walk. -/
-- TYPESA
namespace Go.Proofs.YtgecnlcbdbaneaaDoor
open Go.RowKit Go.Sw

structure Pr where
 a : Int
 b : Int
 t : Bool
deriving DecidableEq
abbrev bD (t : Bool) : D:=.v (.bool t)
def Pr.d (p : Pr) : D:=.agg [iD p.a,iD p.b,bD p.t]
def n0 : Nd:=⟨0,0,[],[]⟩
def gAt (g : List Nd) (i : Int) : Nd:=g.getD i.toNat n0
def ndX (g h : List Nd) (p : Pr) : Nd:=if p.t = true then gAt h p.b else gAt g p.a
def ndY (g h : List Nd) (p : Pr) : Nd:=if p.t = true then gAt g p.a else gAt h p.b
theorem gAt_d {g : List Nd} {i : Int} (h0 : 0 ≤ i) (h1 : i < (g.length : Int)) : (g.map Nd.d).getD i.toNat default = (gAt g i).d:=by
 have : i.toNat < g.length:=by omega
 simp [List.getD,gAt,this]
def toP (g h : List Nd) (p : Pr) (i k : Int) (t : Bool) : Pr :=
 if p.t = true then ⟨(gAt g p.a).to.getD k.toNat 0,(gAt h p.b).to.getD i.toNat 0,p.t != t⟩ else ⟨(gAt g p.a).to.getD i.toNat 0,(gAt h p.b).to.getD k.toNat 0,p.t != t⟩
end Go.Proofs.YtgecnlcbdbaneaaDoor
/- below.both's fits; a symbolic walk. -/
-- TYPESA
namespace Go.Proofs.YtgecnlcbdbaneaaDoor
open Go.RowKit Go.Sw

abbrev dotS : ByteArray:=⟨#[46]⟩
abbrev hatS : ByteArray:=⟨#[94]⟩
def stD (s : ByteArray × Pr) : D:=.agg [sD s.1,iD s.2.a,iD s.2.b,bD s.2.t]
def ixL (l : ByteArray) (ls : List ByteArray) : Int:=idxS l.toList ls 0
def fewL (x y : Nd) : List ByteArray:=if x.k = 6 then y.ls else x.ls
def manyL (x y : Nd) : List ByteArray:=if x.k = 6 then x.ls else y.ls
def lStep (g h : List Nd) (p : Pr) (l : ByteArray) : ByteArray × Pr:=(l,toP g h p (ixL l (ndX g h p).ls) (ixL l (ndY g h p).ls) false)
def fitsP (g h : List Nd) (p : Pr) : Option (List (ByteArray × Pr)) :=
 if (ndX g h p).k ≠ (ndY g h p).k then none else if (ndX g h p).so ≠ (ndY g h p).so then none
 else if (ndX g h p).k = 2 ∨ (ndX g h p).k = 3 then some [(dotS,toP g h p 0 0 false)]
 else if (ndX g h p).k = 4 ∨ (ndX g h p).k = 5 then some [(hatS,toP g h p 0 0 ((ndX g h p).k == 4)),(dotS,toP g h p 1 1 false)]
 else if (fewL (ndX g h p) (ndY g h p)).all (fun l=>inL (manyL (ndX g h p) (ndY g h p)) l) = true then some ((fewL (ndX g h p) (ndY g h p)).map (lStep g h p)) else none
structure NdSh (x : Nd) : Prop where
 one : x.k = 2 ∨ x.k = 3 → 1 ≤ x.to.length
 two : x.k = 4 ∨ x.k = 5 → 2 ≤ x.to.length
 ls : x.ls.length ≤ x.to.length
 l6 : x.ls.length ≤ 6
theorem idx_range {s : List UInt8} : ∀ {l : List ByteArray} {j : Nat},(l.any fun b=>s == b.toList) = true → 0 ≤ idxS s l j ∧ idxS s l j < ((j + l.length : Nat) : Int)
 | b :: l,j,h=>by
  unfold idxS
  by_cases hb : s = b.toList
  · rw [if_pos hb];simp only [List.length_cons];omega
  · rw [if_neg hb]
    simp only [List.any_cons,Bool.or_eq_true,beq_iff_eq] at h
    have:=idx_range (l:=l) (j:=j + 1) (h.resolve_left hb)
    simp only [List.length_cons];omega
end Go.Proofs.YtgecnlcbdbaneaaDoor
