/- graph.Of; a symbolic walk. -/
import Derived.Test.YtgecnlcbdbaneaaDoorH4
-- TYPESA
set_option linter.unusedVariables false
set_option linter.unusedSimpArgs false
namespace Go.Proofs.YtgecnlcbdbaneaaDoor
open Go.RowKit Go.Sw

def rawP (x : Tp) : List Nd:=(addT x [] [] []).2
def ofP (x : Tp) : List Nd:=if tCheck x = 0 then leastP (rawP x) else []
set_option maxHeartbeats 8000000 in
set_option maxRecDepth 100000 in
theorem of_fn0 (Γ : Gl) (x : Tp) (hadd : tCheck x = 0 → AddS Γ x ∧ clT x [] ∧ x.size ≤ 60) (hls : tCheck x = 0 → DFn Tryd.prog Γ 46 [.slc ((rawP x).map Nd.d)] (.slc ((leastP (rawP x)).map Nd.d))) :
 DFn Tryd.prog Γ 12 [x.d] (.tup [.slc ((ofP x).map Nd.d),iD (tCheck x)]):=by
 have hck:=TCheck_fn Γ x
 unfold ofP
 by_cases hc : tCheck x = 0
 · rw [if_pos hc]
   obtain ⟨h1,h2,h3⟩:=hadd hc
   have hl:=hls hc
   have ha : SFn Tryd.prog Γ 45 [.ref 1 0,.d x.d,.d (.slc []),.d (.slc [])] [(1,.cells [.own 2]),(2,.row 4 [])] (.d (iD (addT x [] [] []).1)) [(1,.cells [.own 2]),(2,.row 4 ((addT x [] [] []).2.map Nd.d))]:=(h1 [] [] [] rfl (by simp;omega) (by simp;omega) h2).up 1
   unfold rawP at hl ⊢
   generalize addT x [] [] [] = A at ha hl
   obtain ⟨n,G⟩:=A
   simp only at ha hl ⊢
   rw [hc] at hck ⊢
   generalize leastP G = R at hl ⊢
   obtain ⟨k,so,nm,ls,l⟩:=x
   simp only [Tp.d] at hck ha ⊢
   clear h1 h2 h3 hadd hls hc
   refine fn_of_swp (N:=21) Tryd.func12 rfl (by decide) rfl rfl (by simp) (fun C h0=>?_)
   simp only [argE]
   repeat' (first|(with_reducible apply zz1)|((with_reducible apply zz2);rfl;intro K' hK';simp only [WA,simprocAttr];(repeat (constructor;focus (clear hK';intros;simp_all;done)));(try (apply hK';clear hK' K')))|((with_reducible apply zz3);rfl;all_goals (intro h;try exact absurd h (by decide))))
   refine stop_callF rfl (by simp only [WA,simprocAttr]) rfl rfl (hck) ?_
   simp only [WA,simprocAttr,inX,dropS, ]
   (repeat (constructor;focus (clear hK';intros;simp_all;done)))
   (try (apply hK';clear hK' K'))
   repeat' (first|(with_reducible apply zz1)|((with_reducible apply zz2);rfl;intro K' hK';simp only [WA,simprocAttr];(repeat (constructor;focus (clear hK';intros;simp_all;done)));(try (apply hK';clear hK' K')))|((with_reducible apply zz3);rfl;all_goals (intro h;try exact absurd h (by decide))))
   refine stop_sub (sub_nilB 1 0 2 4 rfl rfl rfl (by decide)) ?_
   simp only [WA,simprocAttr]
   refine stop_cS rfl (by simp only [UA,WA,simprocAttr]) (ha) ?_
   simp only [WA,simprocAttr,UM, ]
   (try (apply hK';clear hK' K'))
   repeat' (first|(with_reducible apply zz1)|((with_reducible apply zz2);rfl;intro K' hK';simp only [WA,simprocAttr];(repeat (constructor;focus (clear hK';intros;simp_all;done)));(try (apply hK';clear hK' K')))|((with_reducible apply zz3);rfl;all_goals (intro h;try exact absurd h (by decide))))
   refine stop_frz [2] h0 (by simp only [Option.isSome_some,UF,WA,simprocAttr]) ?_
   simp only [WA,simprocAttr,UF]
   refine stop_call h0 rfl (by simp only [WA,simprocAttr]) rfl (by simp only [keepS,Option.isSome_some,WA,simprocAttr]) (hl) ?_
   simp only [WA,simprocAttr,inX,dropS, ]
   (repeat (constructor;focus (clear hK';intros;simp_all;done)))
   (try (apply hK';clear hK' K'))
   repeat' (first|(with_reducible apply zz1)|((with_reducible apply zz2);rfl;intro K' hK';simp only [WA,simprocAttr];(repeat (constructor;focus (clear hK';intros;simp_all;done)));(try (apply hK';clear hK' K')))|((with_reducible apply zz3);rfl;all_goals (intro h;try exact absurd h (by decide))))
   simp only [Kret,retL,retOne,oneV,WA,simprocAttr]
 · rw [if_neg hc]
   have g1 : (tCheck x != 0) = true:=by simpa using hc
   generalize tCheck x = r at hck g1 ⊢
   clear hadd hls hc
   obtain ⟨k,so,nm,ls,l⟩:=x
   simp only [Tp.d] at hck ⊢
   refine fn_of_swp (N:=21) Tryd.func12 rfl (by decide) rfl rfl (by simp) (fun C h0=>?_)
   simp only [argE]
   repeat' (first|(with_reducible apply zz1)|((with_reducible apply zz2);rfl;intro K' hK';simp only [WA,simprocAttr];(repeat (constructor;focus (clear hK';intros;simp_all;done)));(try (apply hK';clear hK' K')))|((with_reducible apply zz3);rfl;all_goals (intro h;try exact absurd h (by decide))))
   refine stop_callF rfl (by simp only [WA,simprocAttr]) rfl rfl (hck) ?_
   simp only [WA,simprocAttr,inX,dropS, ]
   (repeat (constructor;focus (clear hK';intros;simp_all;done)))
   (try (apply hK';clear hK' K'))
   repeat' (first|(with_reducible apply zz1)|((with_reducible apply zz2);rfl;intro K' hK';simp only [WA,simprocAttr,g1];(repeat (constructor;focus (clear hK';intros;simp_all;done)));(try (apply hK';clear hK' K')))|((with_reducible apply zz3);rfl;all_goals (intro h;try exact absurd h (by decide))))
   simp only [Kret,retL,retOne,oneV,WA,simprocAttr,List.map_nil]
end Go.Proofs.YtgecnlcbdbaneaaDoor
/- below.both's nodes and fits; a symbolic walk. -/
-- TYPESA
namespace Go.Proofs.YtgecnlcbdbaneaaDoor
open Go.RowKit Go.Sw
open Nat renaming reduceAdd → zn2

structure Pr where
 a : Int
 b : Int
 t : Bool
deriving DecidableEq
abbrev bD (t : Bool) : D:=.v (.bool t)
def Pr.d (p : Pr) : D:=.agg [iD p.a,iD p.b,bD p.t]
def n0 : Nd:=⟨0,0,[],[]⟩
def gAt (g : List Nd) (i : Int) : Nd:=g.getD i.toNat n0
def ndX (g h : List Nd) (p : Pr) : Nd:=if p.t = true then gAt h p.b else gAt g p.a
def ndY (g h : List Nd) (p : Pr) : Nd:=if p.t = true then gAt g p.a else gAt h p.b
theorem gAt_d {g : List Nd} {i : Int} (h0 : 0 ≤ i) (h1 : i < (g.length : Int)) : (g.map Nd.d).getD i.toNat default = (gAt g i).d:=by
 have : i.toNat < g.length:=by omega
 simp [List.getD,gAt,this]
set_option maxHeartbeats 8000000 in
set_option maxRecDepth 100000 in
theorem nodes_fn (Γ : Gl) (g h : List Nd) (p : Pr) (ha0 : 0 ≤ p.a) (ha1 : p.a < (g.length : Int)) (hb0 : 0 ≤ p.b) (hb1 : p.b < (h.length : Int)) :
 DFn Tryd.prog Γ 88 [.agg [.slc (g.map Nd.d),.slc (h.map Nd.d)],p.d] (.tup [(ndX g h p).d,(ndY g h p).d]):=by
 have hga:=gAt_d ha0 ha1
 have hgb:=gAt_d hb0 hb1
 obtain ⟨a,b,t⟩:=p
 simp only at ha0 ha1 hb0 hb1 hga hgb
 unfold ndX ndY
 simp only [Pr.d]
 generalize gAt g a = A at hga ⊢
 generalize gAt h b = B at hgb ⊢
 obtain ⟨ak,aso,als,ato⟩:=A
 obtain ⟨bk,bso,bls,bto⟩:=B
 simp only [Nd.d] at hga hgb
 cases t with
 | true =>
  simp only [if_true,Nd.d]
  refine fn_of_swp (N:=32) Tryd.func88 rfl (by decide) rfl rfl (by simp) (fun C h0=>?_)
  simp only [argE]
  repeat' (first|(with_reducible apply zz1)|((with_reducible apply zz2);rfl;intro K' hK';simp only [WA,simprocAttr];(repeat (constructor;focus (clear hK';intros;simp_all;done)));(try (apply hK';clear hK' K')))|((with_reducible apply zz3);rfl;all_goals (intro h;try exact absurd h (by decide))))
  (with_reducible refine swp_drawX ?_ ?_ ?_ (⟨⟨[],[]⟩,[],[],[],[]⟩) _ rfl (fun K' hK' gops fin hgops hfin=>?_)
   · kernel_rfl
   · rfl
   · rfl
   repeat' first
    | (refine vcX_dead rfl trivial (by simp only [WA,simprocAttr,UX,UA];rfl) (by simp only [List.nil_append,List.cons_append];rfl) (by simp only [zn2];rfl) ?_)
    | (refine vcX_step rfl rfl trivial (by simp only [WA,simprocAttr,UX,UA,ha0,ha1,hb0,hb1,hga,hgb,List.length_map ];rfl) ?_ (by simp only [WA,simprocAttr,UX,UA];rfl) (by simp only [WA,simprocAttr,UX,UA];rfl) (by simp only [List.nil_append,List.cons_append];rfl) (by simp only [zn2];rfl) ?_;focus (first | trivial | ((repeat' apply And.intro) <;> first | trivial | assumption | (clear hK' hfin hgops;intros;simp_all;done))))
   (refine vcX_nil (by subst hfin;kernel_rfl) ?_)
   clear hfin hgops fin gops
   (try (apply hK';clear hK' K')))
  repeat' (first|(with_reducible apply zz1)|((with_reducible apply zz2);rfl;intro K' hK';simp only [WA,simprocAttr];(repeat (constructor;focus (clear hK';intros;simp_all;done)));(try (apply hK';clear hK' K')))|((with_reducible apply zz3);rfl;all_goals (intro h;try exact absurd h (by decide))))
  simp only [Kret,retL,retOne,oneV,WA,simprocAttr]
 | false =>
  simp only [Bool.false_eq_true,if_false,Nd.d]
  refine fn_of_swp (N:=32) Tryd.func88 rfl (by decide) rfl rfl (by simp) (fun C h0=>?_)
  simp only [argE]
  repeat' (first|(with_reducible apply zz1)|((with_reducible apply zz2);rfl;intro K' hK';simp only [WA,simprocAttr];(repeat (constructor;focus (clear hK';intros;simp_all;done)));(try (apply hK';clear hK' K')))|((with_reducible apply zz3);rfl;all_goals (intro h;try exact absurd h (by decide))))
  (with_reducible refine swp_drawX ?_ ?_ ?_ (⟨⟨[],[]⟩,[],[],[],[]⟩) _ rfl (fun K' hK' gops fin hgops hfin=>?_)
   · kernel_rfl
   · rfl
   · rfl
   repeat' first
    | (refine vcX_dead rfl trivial (by simp only [WA,simprocAttr,UX,UA];rfl) (by simp only [List.nil_append,List.cons_append];rfl) (by simp only [zn2];rfl) ?_)
    | (refine vcX_step rfl rfl trivial (by simp only [WA,simprocAttr,UX,UA,ha0,ha1,hb0,hb1,hga,hgb,List.length_map ];rfl) ?_ (by simp only [WA,simprocAttr,UX,UA];rfl) (by simp only [WA,simprocAttr,UX,UA];rfl) (by simp only [List.nil_append,List.cons_append];rfl) (by simp only [zn2];rfl) ?_;focus (first | trivial | ((repeat' apply And.intro) <;> first | trivial | assumption | (clear hK' hfin hgops;intros;simp_all;done))))
   (refine vcX_nil (by subst hfin;kernel_rfl) ?_)
   clear hfin hgops fin gops
   (try (apply hK';clear hK' K')))
  repeat' (first|(with_reducible apply zz1)|((with_reducible apply zz2);rfl;intro K' hK';simp only [WA,simprocAttr];(repeat (constructor;focus (clear hK';intros;simp_all;done)));(try (apply hK';clear hK' K')))|((with_reducible apply zz3);rfl;all_goals (intro h;try exact absurd h (by decide))))
  simp only [Kret,retL,retOne,oneV,WA,simprocAttr]
def toP (g h : List Nd) (p : Pr) (i k : Int) (t : Bool) : Pr :=
 if p.t = true then ⟨(gAt g p.a).to.getD k.toNat 0,(gAt h p.b).to.getD i.toNat 0,p.t != t⟩ else ⟨(gAt g p.a).to.getD i.toNat 0,(gAt h p.b).to.getD k.toNat 0,p.t != t⟩
theorem toAt_d {l : List Int} {i : Int} (h0 : 0 ≤ i) (h1 : i < (l.length : Int)) : (l.map iD).getD i.toNat default = iD (l.getD i.toNat 0):=by
 have : i.toNat < l.length:=by omega
 simp [List.getD,this]
set_option maxHeartbeats 8000000 in
set_option maxRecDepth 100000 in
theorem to_fn (Γ : Gl) (g h : List Nd) (p : Pr) (i k : Int) (t : Bool) (ha0 : 0 ≤ p.a) (ha1 : p.a < (g.length : Int)) (hb0 : 0 ≤ p.b) (hb1 : p.b < (h.length : Int))
 (hi0 : 0 ≤ i) (hi1 : i < ((ndX g h p).to.length : Int)) (hk0 : 0 ≤ k) (hk1 : k < ((ndY g h p).to.length : Int)) :
 SFn Tryd.prog Γ 89 [.d (iD i),.d (iD k),.d (bD t),.fptr p.d 0,.fptr (.agg [.slc (g.map Nd.d),.slc (h.map Nd.d)]) 0] [] (.d (toP g h p i k t).d) []:=by
 have hga:=gAt_d ha0 ha1
 have hgb:=gAt_d hb0 hb1
 obtain ⟨a,b,u⟩:=p
 unfold ndX at hi1
 unfold ndY at hk1
 unfold toP
 simp only at ha0 ha1 hb0 hb1 hga hgb hi1 hk1 ⊢
 simp only [Pr.d]
 generalize gAt g a = A at hga hi1 hk1 ⊢
 generalize gAt h b = B at hgb hi1 hk1 ⊢
 obtain ⟨ak,aso,als,ato⟩:=A
 obtain ⟨bk,bso,bls,bto⟩:=B
 simp only [Nd.d] at hga hgb
 cases u with
 | true =>
  simp only [if_true] at hi1 hk1 ⊢
  have q1:=toAt_d hi0 hi1
  have q2:=toAt_d hk0 hk1
  refine sfn_of_swp (N:=38) Tryd.func89 rfl (by decide) rfl rfl (by simp) (fun C h0=>?_)
  simp only [argS]
  repeat' (first|(with_reducible apply zz1)|((with_reducible apply zz2);rfl;intro K' hK';simp only [WA,simprocAttr];(repeat (constructor;focus (clear hK';intros;simp_all;done)));(try (apply hK';clear hK' K')))|((with_reducible apply zz3);rfl;all_goals (intro h;try exact absurd h (by decide))))
  (with_reducible refine swp_drawX ?_ ?_ ?_ (⟨⟨[],[]⟩,[],[],[],[]⟩) _ rfl (fun K' hK' gops fin hgops hfin=>?_)
   · kernel_rfl
   · rfl
   · rfl
   repeat' first
    | (refine vcX_dead rfl trivial (by simp only [WA,simprocAttr,UX,UA];rfl) (by simp only [List.nil_append,List.cons_append];rfl) (by simp only [zn2];rfl) ?_)
    | (refine vcX_step rfl rfl trivial (by simp only [WA,simprocAttr,UX,UA,ha0,ha1,hb0,hb1,hga,hgb,hi0,hi1,hk0,hk1,q1,q2,List.length_map,bD ];rfl) ?_ (by simp only [WA,simprocAttr,UX,UA];rfl) (by simp only [WA,simprocAttr,UX,UA];rfl) (by simp only [List.nil_append,List.cons_append];rfl) (by simp only [zn2];rfl) ?_;focus (first | trivial | ((repeat' apply And.intro) <;> first | trivial | assumption | (clear hK' hfin hgops;intros;simp_all;done))))
   (refine vcX_nil (by subst hfin;kernel_rfl) ?_)
   clear hfin hgops fin gops
   (try (apply hK';clear hK' K')))
  repeat' (first|(with_reducible apply zz1)|((with_reducible apply zz2);rfl;intro K' hK';simp only [WA,simprocAttr];(repeat (constructor;focus (clear hK';intros;simp_all;done)));(try (apply hK';clear hK' K')))|((with_reducible apply zz3);rfl;all_goals (intro h;try exact absurd h (by decide))))
  simp only [KretS,retL,retOne,oneV,US,WA,simprocAttr,h0]
  rfl
 | false =>
  simp only [Bool.false_eq_true,if_false] at hi1 hk1 ⊢
  have q1:=toAt_d hi0 hi1
  have q2:=toAt_d hk0 hk1
  refine sfn_of_swp (N:=38) Tryd.func89 rfl (by decide) rfl rfl (by simp) (fun C h0=>?_)
  simp only [argS]
  repeat' (first|(with_reducible apply zz1)|((with_reducible apply zz2);rfl;intro K' hK';simp only [WA,simprocAttr];(repeat (constructor;focus (clear hK';intros;simp_all;done)));(try (apply hK';clear hK' K')))|((with_reducible apply zz3);rfl;all_goals (intro h;try exact absurd h (by decide))))
  (with_reducible refine swp_drawX ?_ ?_ ?_ (⟨⟨[],[]⟩,[],[],[],[]⟩) _ rfl (fun K' hK' gops fin hgops hfin=>?_)
   · kernel_rfl
   · rfl
   · rfl
   repeat' first
    | (refine vcX_dead rfl trivial (by simp only [WA,simprocAttr,UX,UA];rfl) (by simp only [List.nil_append,List.cons_append];rfl) (by simp only [zn2];rfl) ?_)
    | (refine vcX_step rfl rfl trivial (by simp only [WA,simprocAttr,UX,UA,ha0,ha1,hb0,hb1,hga,hgb,hi0,hi1,hk0,hk1,q1,q2,List.length_map,bD ];rfl) ?_ (by simp only [WA,simprocAttr,UX,UA];rfl) (by simp only [WA,simprocAttr,UX,UA];rfl) (by simp only [List.nil_append,List.cons_append];rfl) (by simp only [zn2];rfl) ?_;focus (first | trivial | ((repeat' apply And.intro) <;> first | trivial | assumption | (clear hK' hfin hgops;intros;simp_all;done))))
   (refine vcX_nil (by subst hfin;kernel_rfl) ?_)
   clear hfin hgops fin gops
   (try (apply hK';clear hK' K')))
  repeat' (first|(with_reducible apply zz1)|((with_reducible apply zz2);rfl;intro K' hK';simp only [WA,simprocAttr];(repeat (constructor;focus (clear hK';intros;simp_all;done)));(try (apply hK';clear hK' K')))|((with_reducible apply zz3);rfl;all_goals (intro h;try exact absurd h (by decide))))
  simp only [KretS,retL,retOne,oneV,US,WA,simprocAttr,h0]
  rfl
end Go.Proofs.YtgecnlcbdbaneaaDoor
