/- below.both's nodes and fits; a symbolic walk. -/
-- TYPESA
import Derived.Test.YtgecnlcbdbaneaaDoorH4
set_option linter.unusedVariables false
set_option linter.unusedSimpArgs false
namespace Go.Proofs.YtgecnlcbdbaneaaDoor
open Go.RowKit Go.Sw
open _root_.List renaming nil_append → za, cons_append → zb, length_map → ze
open Nat renaming reduceAdd → zn2

structure Pr where
 a : Int
 b : Int
 t : Bool
deriving DecidableEq
abbrev bD (t : Bool) : D:=.v (.bool t)
def Pr.d (p : Pr) : D:=.agg [iD p.a,iD p.b,bD p.t]
def n0 : Nd:=⟨0,0,[],[]⟩
def gAt (g : List Nd) (i : Int) : Nd:=g.getD i.toNat n0
def ndX (g h : List Nd) (p : Pr) : Nd:=if p.t = true then gAt h p.b else gAt g p.a
def ndY (g h : List Nd) (p : Pr) : Nd:=if p.t = true then gAt g p.a else gAt h p.b
theorem qq3 {g : List Nd} {i : Int} (h0 : 0 ≤ i) (h1 : i < (g.length : Int)) : (g.map Nd.d).getD i.toNat default = (gAt g i).d:=by
 have : i.toNat < g.length:=by omega
 simp [List.getD,gAt,this]
set_option maxHeartbeats 8000000 in
set_option maxRecDepth 100000 in
theorem yr8 (Γ : Gl) (g h : List Nd) (p : Pr) (ha0 : 0 ≤ p.a) (ha1 : p.a < (g.length : Int)) (hb0 : 0 ≤ p.b) (hb1 : p.b < (h.length : Int)) :
 DFn Tryd.prog Γ 88 [.agg [.slc (g.map Nd.d),.slc (h.map Nd.d)],p.d] (.tup [(ndX g h p).d,(ndY g h p).d]):=by
 have hga:=qq3 ha0 ha1
 have hgb:=qq3 hb0 hb1
 obtain ⟨a,b,t⟩:=p
 simp only at ha0 ha1 hb0 hb1 hga hgb
 unfold ndX ndY
 simp only [Pr.d]
 generalize gAt g a = A at hga ⊢
 generalize gAt h b = B at hgb ⊢
 obtain ⟨ak,aso,als,ato⟩:=A
 obtain ⟨bk,bso,bls,bto⟩:=B
 simp only [Nd.d] at hga hgb
 cases t with
 | true =>
  simp only [if_true,Nd.d]
  refine qa4 (N:=32) Tryd.func88 rfl (by decide) rfl rfl (by simp) (fun C h0=>?_)
  simp only [qj1]
  repeat' (first|(with_reducible apply zz1)|((with_reducible apply zz2);rfl;intro K' hK';simp only [WA,simprocAttr];(repeat (constructor;focus (clear hK';intros;simp_all;done)));(try (apply hK';clear hK' K')))|((with_reducible apply zz3);rfl;all_goals (intro h;try exact absurd h (by decide))))
  (with_reducible refine qa6 ?_ ?_ ?_ (⟨⟨[],[]⟩,[],[],[],[]⟩) _ rfl (fun K' hK' gops fin hgops hfin=>?_)
   · kernel_rfl
   · rfl
   · rfl
   repeat' first
    | (refine qa9 rfl trivial (by simp only [WA,simprocAttr,UX,UA];rfl) (by simp only [za,zb];rfl) (by simp only [zn2];rfl) ?_)
    | (refine qa8 rfl rfl trivial (by simp only [WA,simprocAttr,UX,UA,ha0,ha1,hb0,hb1,hga,hgb,ze ];rfl) ?_ (by simp only [WA,simprocAttr,UX,UA];rfl) (by simp only [WA,simprocAttr,UX,UA];rfl) (by simp only [za,zb];rfl) (by simp only [zn2];rfl) ?_;focus (first | trivial | ((repeat' constructor) <;> first | trivial | assumption | (clear hK' hfin hgops;intros;simp_all;done))))
   (refine qb5 (by subst hfin;kernel_rfl) ?_)
   clear hfin hgops fin gops
   (try (apply hK';clear hK' K')))
  repeat' (first|(with_reducible apply zz1)|((with_reducible apply zz2);rfl;intro K' hK';simp only [WA,simprocAttr];(repeat (constructor;focus (clear hK';intros;simp_all;done)));(try (apply hK';clear hK' K')))|((with_reducible apply zz3);rfl;all_goals (intro h;try exact absurd h (by decide))))
  simp only [qf7,qd5,qa2,qd6,WA,simprocAttr]
 | false =>
  simp only [Bool.false_eq_true,if_false,Nd.d]
  refine qa4 (N:=32) Tryd.func88 rfl (by decide) rfl rfl (by simp) (fun C h0=>?_)
  simp only [qj1]
  repeat' (first|(with_reducible apply zz1)|((with_reducible apply zz2);rfl;intro K' hK';simp only [WA,simprocAttr];(repeat (constructor;focus (clear hK';intros;simp_all;done)));(try (apply hK';clear hK' K')))|((with_reducible apply zz3);rfl;all_goals (intro h;try exact absurd h (by decide))))
  (with_reducible refine qa6 ?_ ?_ ?_ (⟨⟨[],[]⟩,[],[],[],[]⟩) _ rfl (fun K' hK' gops fin hgops hfin=>?_)
   · kernel_rfl
   · rfl
   · rfl
   repeat' first
    | (refine qa9 rfl trivial (by simp only [WA,simprocAttr,UX,UA];rfl) (by simp only [za,zb];rfl) (by simp only [zn2];rfl) ?_)
    | (refine qa8 rfl rfl trivial (by simp only [WA,simprocAttr,UX,UA,ha0,ha1,hb0,hb1,hga,hgb,ze ];rfl) ?_ (by simp only [WA,simprocAttr,UX,UA];rfl) (by simp only [WA,simprocAttr,UX,UA];rfl) (by simp only [za,zb];rfl) (by simp only [zn2];rfl) ?_;focus (first | trivial | ((repeat' constructor) <;> first | trivial | assumption | (clear hK' hfin hgops;intros;simp_all;done))))
   (refine qb5 (by subst hfin;kernel_rfl) ?_)
   clear hfin hgops fin gops
   (try (apply hK';clear hK' K')))
  repeat' (first|(with_reducible apply zz1)|((with_reducible apply zz2);rfl;intro K' hK';simp only [WA,simprocAttr];(repeat (constructor;focus (clear hK';intros;simp_all;done)));(try (apply hK';clear hK' K')))|((with_reducible apply zz3);rfl;all_goals (intro h;try exact absurd h (by decide))))
  simp only [qf7,qd5,qa2,qd6,WA,simprocAttr]
def toP (g h : List Nd) (p : Pr) (i k : Int) (t : Bool) : Pr :=
 if p.t = true then ⟨(gAt g p.a).to.getD k.toNat 0,(gAt h p.b).to.getD i.toNat 0,p.t != t⟩ else ⟨(gAt g p.a).to.getD i.toNat 0,(gAt h p.b).to.getD k.toNat 0,p.t != t⟩
theorem xo4 {l : List Int} {i : Int} (h0 : 0 ≤ i) (h1 : i < (l.length : Int)) : (l.map iD).getD i.toNat default = iD (l.getD i.toNat 0):=by
 have : i.toNat < l.length:=by omega
 simp [List.getD,this]
set_option maxHeartbeats 8000000 in
set_option maxRecDepth 100000 in
theorem to_fn (Γ : Gl) (g h : List Nd) (p : Pr) (i k : Int) (t : Bool) (ha0 : 0 ≤ p.a) (ha1 : p.a < (g.length : Int)) (hb0 : 0 ≤ p.b) (hb1 : p.b < (h.length : Int))
 (hi0 : 0 ≤ i) (hi1 : i < ((ndX g h p).to.length : Int)) (hk0 : 0 ≤ k) (hk1 : k < ((ndY g h p).to.length : Int)) :
 SFn Tryd.prog Γ 89 [.d (iD i),.d (iD k),.d (bD t),.fptr p.d 0,.fptr (.agg [.slc (g.map Nd.d),.slc (h.map Nd.d)]) 0] [] (.d (toP g h p i k t).d) []:=by
 have hga:=qq3 ha0 ha1
 have hgb:=qq3 hb0 hb1
 obtain ⟨a,b,u⟩:=p
 unfold ndX at hi1
 unfold ndY at hk1
 unfold toP
 simp only at ha0 ha1 hb0 hb1 hga hgb hi1 hk1 ⊢
 simp only [Pr.d]
 generalize gAt g a = A at hga hi1 hk1 ⊢
 generalize gAt h b = B at hgb hi1 hk1 ⊢
 obtain ⟨ak,aso,als,ato⟩:=A
 obtain ⟨bk,bso,bls,bto⟩:=B
 simp only [Nd.d] at hga hgb
 cases u with
 | true =>
  simp only [if_true] at hi1 hk1 ⊢
  have q1:=xo4 hi0 hi1
  have q2:=xo4 hk0 hk1
  refine qe0 (N:=38) Tryd.func89 rfl (by decide) rfl rfl (by simp) (fun C h0=>?_)
  simp only [vg9]
  repeat' (first|(with_reducible apply zz1)|((with_reducible apply zz2);rfl;intro K' hK';simp only [WA,simprocAttr];(repeat (constructor;focus (clear hK';intros;simp_all;done)));(try (apply hK';clear hK' K')))|((with_reducible apply zz3);rfl;all_goals (intro h;try exact absurd h (by decide))))
  (with_reducible refine qa6 ?_ ?_ ?_ (⟨⟨[],[]⟩,[],[],[],[]⟩) _ rfl (fun K' hK' gops fin hgops hfin=>?_)
   · kernel_rfl
   · rfl
   · rfl
   repeat' first
    | (refine qa9 rfl trivial (by simp only [WA,simprocAttr,UX,UA];rfl) (by simp only [za,zb];rfl) (by simp only [zn2];rfl) ?_)
    | (refine qa8 rfl rfl trivial (by simp only [WA,simprocAttr,UX,UA,ha0,ha1,hb0,hb1,hga,hgb,hi0,hi1,hk0,hk1,q1,q2,ze,bD ];rfl) ?_ (by simp only [WA,simprocAttr,UX,UA];rfl) (by simp only [WA,simprocAttr,UX,UA];rfl) (by simp only [za,zb];rfl) (by simp only [zn2];rfl) ?_;focus (first | trivial | ((repeat' constructor) <;> first | trivial | assumption | (clear hK' hfin hgops;intros;simp_all;done))))
   (refine qb5 (by subst hfin;kernel_rfl) ?_)
   clear hfin hgops fin gops
   (try (apply hK';clear hK' K')))
  repeat' (first|(with_reducible apply zz1)|((with_reducible apply zz2);rfl;intro K' hK';simp only [WA,simprocAttr];(repeat (constructor;focus (clear hK';intros;simp_all;done)));(try (apply hK';clear hK' K')))|((with_reducible apply zz3);rfl;all_goals (intro h;try exact absurd h (by decide))))
  simp only [qf8,qd5,qa2,qd6,US,WA,simprocAttr,h0]
  rfl
 | false =>
  simp only [Bool.false_eq_true,if_false] at hi1 hk1 ⊢
  have q1:=xo4 hi0 hi1
  have q2:=xo4 hk0 hk1
  refine qe0 (N:=38) Tryd.func89 rfl (by decide) rfl rfl (by simp) (fun C h0=>?_)
  simp only [vg9]
  repeat' (first|(with_reducible apply zz1)|((with_reducible apply zz2);rfl;intro K' hK';simp only [WA,simprocAttr];(repeat (constructor;focus (clear hK';intros;simp_all;done)));(try (apply hK';clear hK' K')))|((with_reducible apply zz3);rfl;all_goals (intro h;try exact absurd h (by decide))))
  (with_reducible refine qa6 ?_ ?_ ?_ (⟨⟨[],[]⟩,[],[],[],[]⟩) _ rfl (fun K' hK' gops fin hgops hfin=>?_)
   · kernel_rfl
   · rfl
   · rfl
   repeat' first
    | (refine qa9 rfl trivial (by simp only [WA,simprocAttr,UX,UA];rfl) (by simp only [za,zb];rfl) (by simp only [zn2];rfl) ?_)
    | (refine qa8 rfl rfl trivial (by simp only [WA,simprocAttr,UX,UA,ha0,ha1,hb0,hb1,hga,hgb,hi0,hi1,hk0,hk1,q1,q2,ze,bD ];rfl) ?_ (by simp only [WA,simprocAttr,UX,UA];rfl) (by simp only [WA,simprocAttr,UX,UA];rfl) (by simp only [za,zb];rfl) (by simp only [zn2];rfl) ?_;focus (first | trivial | ((repeat' constructor) <;> first | trivial | assumption | (clear hK' hfin hgops;intros;simp_all;done))))
   (refine qb5 (by subst hfin;kernel_rfl) ?_)
   clear hfin hgops fin gops
   (try (apply hK';clear hK' K')))
  repeat' (first|(with_reducible apply zz1)|((with_reducible apply zz2);rfl;intro K' hK';simp only [WA,simprocAttr];(repeat (constructor;focus (clear hK';intros;simp_all;done)));(try (apply hK';clear hK' K')))|((with_reducible apply zz3);rfl;all_goals (intro h;try exact absurd h (by decide))))
  simp only [qf8,qd5,qa2,qd6,US,WA,simprocAttr,h0]
  rfl
end Go.Proofs.YtgecnlcbdbaneaaDoor
