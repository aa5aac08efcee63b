/- graph.Back; a symbolic walk. -/
import Derived.Test.YtgecnlcbdbaneaaDoorKB2
import Derived.Test.YtgecnlcbdbaneaaDoorHG
import Derived.Test.YtgecnlcbdbaneaaDoorHQ4
import Derived.Test.YtgecnlcbdbaneaaDoorSwD
import Derived.Test.YtgecnlcbdbaneaaDoorKV8
import Derived.Test.YtgecnlcbdbaneaaDoorHC1
-- TYPESC
set_option linter.unusedVariables false
set_option linter.unusedSimpArgs false
namespace Go.Proofs.YtgecnlcbdbaneaaDoor
open Go.RowKit Go.Sw

def sw02 (i : Nat) : Nat:=if i = 0 then 2 else if i = 2 then 0 else i
theorem sw02_inj (i j : Nat) (h : sw02 i = sw02 j) : i = j:=by
 unfold sw02 at h
 repeat' split at h
 all_goals omega
theorem rens_cI (σ : Nat → Nat) : ∀ on : List Int,SV.rens σ (on.map cI) = on.map cI
 | []=>rfl
 | m :: on=>by rw [List.map_cons,SV.rens,rens_cI σ on];rfl
def BackA (g : List Nd) : D:=if (backG g).2 = true then .tup [(backG g).1.d,iD 0] else .tup [tp0.d,iD 2]
set_option maxHeartbeats 8000000 in
set_option maxRecDepth 100000 in
theorem Back_fn (Γ : Gl) {g : List Nd} (Hg : Gd g) : DFn Tryd.prog Γ 15 [.slc (g.map Nd.d)] (BackA g):=by
 have hC:=gcheck_fn Γ g Hg.pos Hg.le Hg.ok Hg.sh
 have h200:=Hg.le
 have hcall:=(back_fn Γ Hg.ok Hg.sh Hg.le 61 0 ⟨List.replicate g.length 0,60⟩ ⟨by omega,by have:=Hg.pos;omega⟩ ⟨by simp,fun j=>.inl (by
  by_cases hj : j < g.length <;> simp [List.getD,List.getElem?_replicate,hj])⟩ (show (0 : Int) ≤ 60 by decide) (show (60 : Int) < 61 by decide) (show (60 : Int) ≤ 60 by decide)).ren sw02_inj
 simp only [SV.rens,SV.ren,renS,Box.ren,rens_cI] at hcall
 rw [show sw02 0 = 2 from rfl,show sw02 1 = 1 from rfl] at hcall
 unfold BackA backG
 generalize backP g 61 0 ⟨List.replicate g.length 0,60⟩ = r at *
 obtain ⟨⟨z,v⟩,st'⟩:=r
 obtain ⟨i3,hi3,hz3,hs3,hb3⟩:=info3
 have hrep : List.replicate g.length (SV.d (.v (.int .i64 0))) = (List.replicate g.length (0 : Int)).map cI:=by simp [cI]
 simp only [bkA] at hcall ⊢
 obtain ⟨zk,zso,znm,zls,zl⟩:=z
 simp only [Tp.d,tp0,Tp.ds,List.map_nil] at hcall ⊢
 have hpos:=Hg.pos
 refine fn_of_swp (N:=28) Tryd.func15 rfl (by decide) rfl rfl (by simp) (fun C h0=>?_)
 simp only [argE]
 repeat' (first|(with_reducible apply zz1)|((with_reducible refine zz4 ?_ ?_);rfl)|((with_reducible refine zz2 ?_ (fun K' hK'=>?_));rfl;simp only [WC,simprocAttr];(repeat (refine And.intro ?_ ?_;focus (clear hK';intros;simp_all;done)));(try (refine hK' _ _ ?_;clear hK' K')))|((with_reducible refine zz3 ?_ ?_);rfl;refine ⟨_,rfl,fun h=>?_,fun h=>?_⟩ <;> try exact absurd h (by decide)))
 refine stop_callF rfl (by simp only [WC,simprocAttr]) rfl rfl (hC) ?_
 simp only [WC,simprocAttr,inX,dropS, ]
 (repeat (refine And.intro ?_ ?_;focus (clear hK';intros;simp_all;done)))
 (try (refine hK' _ _ ?_;clear hK' K'))
 repeat' (first|(with_reducible apply zz1)|((with_reducible refine zz4 ?_ ?_);rfl)|((with_reducible refine zz2 ?_ (fun K' hK'=>?_));rfl;simp only [WC,simprocAttr,bne_self_eq_false,List.length_map];(repeat (refine And.intro ?_ ?_;focus (clear hK';intros;simp_all;done)));(try (refine hK' _ _ ?_;clear hK' K')))|((with_reducible refine zz3 ?_ ?_);rfl;refine ⟨_,rfl,fun h=>?_,fun h=>?_⟩ <;> try exact absurd h (by decide)))
 -- TRACE
 refine stop_makeS (n:=g.length) rfl un50 hi3 hz3 hs3 rfl rfl rfl rfl (by rw [hb3];omega) (by unfold maxLen;omega) rfl ?_
 simp only [WC,simprocAttr,  hrep]
 (repeat (refine And.intro ?_ ?_;focus (clear hK';intros;simp_all;done)))
 (try (refine hK' _ _ ?_;clear hK' K'))
 repeat' (first|(with_reducible apply zz1)|((with_reducible refine zz4 ?_ ?_);rfl)|((with_reducible refine zz2 ?_ (fun K' hK'=>?_));rfl;simp only [WC,simprocAttr];(repeat (refine And.intro ?_ ?_;focus (clear hK';intros;simp_all;done)));(try (refine hK' _ _ ?_;clear hK' K')))|((with_reducible refine zz3 ?_ ?_);rfl;refine ⟨_,rfl,fun h=>?_,fun h=>?_⟩ <;> try exact absurd h (by decide)))
 -- TRACE
 refine stop_cS rfl (by simp only [UA,WC,simprocAttr,hins_cI]) (hcall ) ?_
 simp only [WC,simprocAttr,UM,  jks_cI ]
 (try (refine hK' _ _ ?_;clear hK' K'))
 cases v with
 | true =>
  rw [if_pos rfl]
  repeat' (first|(with_reducible apply zz1)|((with_reducible refine zz4 ?_ ?_);rfl)|((with_reducible refine zz2 ?_ (fun K' hK'=>?_));rfl;simp only [WC,simprocAttr,Bool.not_true,cond_true,cond_false];(repeat (refine And.intro ?_ ?_;focus (clear hK';intros;simp_all;done)));(try (refine hK' _ _ ?_;clear hK' K')))|((with_reducible refine zz3 ?_ ?_);rfl;refine ⟨_,rfl,fun h=>?_,fun h=>?_⟩ <;> try exact absurd h (by decide)))
  simp only [Kret,retL,retOne,oneV,WC,simprocAttr]
 | false =>
  rw [if_neg (by decide)]
  repeat' (first|(with_reducible apply zz1)|((with_reducible refine zz4 ?_ ?_);rfl)|((with_reducible refine zz2 ?_ (fun K' hK'=>?_));rfl;simp only [WC,simprocAttr,Bool.not_false,cond_true,cond_false];(repeat (refine And.intro ?_ ?_;focus (clear hK';intros;simp_all;done)));(try (refine hK' _ _ ?_;clear hK' K')))|((with_reducible refine zz3 ?_ ?_);rfl;refine ⟨_,rfl,fun h=>?_,fun h=>?_⟩ <;> try exact absurd h (by decide)))
  simp only [Kret,retL,retOne,oneV,WC,simprocAttr]
end Go.Proofs.YtgecnlcbdbaneaaDoor
/- comply.Ends, comply.Stuck, duetkeep.back; a symbolic walk. -/
-- TYPESC
namespace Go.Proofs.YtgecnlcbdbaneaaDoor
open Go.RowKit Go.Sw

theorem QE.pos {n m : Nat} {qu : Que} (h : QE n m qu) {q : Pc × Int} (hq : q ∈ qu) : 1 ≤ q.2 ∧ q.2 ≤ 40000 + 1 ∨ n * m > 40000:=by
 obtain ⟨i,hi,rfl⟩:=List.mem_iff_getElem.1 hq
 have h1:=h.p i _ (List.getElem?_eq_getElem hi)
 have h2:=h.len
 by_cases hb : n * m > 40000
 · exact .inr hb
 · exact .inl ⟨h1.1,by omega⟩
set_option maxHeartbeats 8000000 in
set_option maxRecDepth 100000 in
theorem keepback_fn (Γ : Gl) {g : List Nd} (Hg : Gd g) : DFn Tryd.prog Γ 21 [.slc (g.map Nd.d),iD 0] (if (backG g).2 = true then .tup [(backG g).1.d,bD true] else .tup [tp0.d,bD false]):=by
 have hB:=Back_fn Γ Hg
 unfold BackA at hB
 generalize backG g = r at *
 obtain ⟨z,v⟩:=r
 generalize g.map Nd.d = A at *
 obtain ⟨zk,zso,znm,zls,zl⟩:=z
 simp only [Tp.d,tp0,Tp.ds,List.map_nil] at hB ⊢
 cases v with
 | true =>
  rw [if_pos rfl] at hB ⊢
  refine fn_of_swp (N:=18) Tryd.func21 rfl (by decide) rfl rfl (by simp) (fun C h0=>?_)
  simp only [argE]
  repeat' (first|(with_reducible apply zz1)|((with_reducible refine zz4 ?_ ?_);rfl)|((with_reducible refine zz2 ?_ (fun K' hK'=>?_));rfl;simp only [WC,simprocAttr,bne_self_eq_false];(repeat (refine And.intro ?_ ?_;focus (clear hK';intros;simp_all;done)));(try (refine hK' _ _ ?_;clear hK' K')))|((with_reducible refine zz3 ?_ ?_);rfl;refine ⟨_,rfl,fun h=>?_,fun h=>?_⟩ <;> try exact absurd h (by decide)))
  refine stop_call h0 rfl (by simp only [WC,simprocAttr]) rfl (by simp only [keepS,Option.isSome_some,WC,simprocAttr]) (hB) ?_
  simp only [WC,simprocAttr,inX,dropS, ]
  (repeat (refine And.intro ?_ ?_;focus (clear hK';intros;simp_all;done)))
  (try (refine hK' _ _ ?_;clear hK' K'))
  repeat' (first|(with_reducible apply zz1)|((with_reducible refine zz4 ?_ ?_);rfl)|((with_reducible refine zz2 ?_ (fun K' hK'=>?_));rfl;simp only [WC,simprocAttr,beq_self_eq_true];(repeat (refine And.intro ?_ ?_;focus (clear hK';intros;simp_all;done)));(try (refine hK' _ _ ?_;clear hK' K')))|((with_reducible refine zz3 ?_ ?_);rfl;refine ⟨_,rfl,fun h=>?_,fun h=>?_⟩ <;> try exact absurd h (by decide)))
  simp only [Kret,retL,retOne,oneV,WC,simprocAttr]
 | false =>
  rw [if_neg (by decide)] at hB ⊢
  refine fn_of_swp (N:=18) Tryd.func21 rfl (by decide) rfl rfl (by simp) (fun C h0=>?_)
  simp only [argE]
  repeat' (first|(with_reducible apply zz1)|((with_reducible refine zz4 ?_ ?_);rfl)|((with_reducible refine zz2 ?_ (fun K' hK'=>?_));rfl;simp only [WC,simprocAttr,bne_self_eq_false];(repeat (refine And.intro ?_ ?_;focus (clear hK';intros;simp_all;done)));(try (refine hK' _ _ ?_;clear hK' K')))|((with_reducible refine zz3 ?_ ?_);rfl;refine ⟨_,rfl,fun h=>?_,fun h=>?_⟩ <;> try exact absurd h (by decide)))
  have e20 : ((2 : Int) == 0) = false:=by decide
  refine stop_call h0 rfl (by simp only [WC,simprocAttr]) rfl (by simp only [keepS,Option.isSome_some,WC,simprocAttr]) (hB) ?_
  simp only [WC,simprocAttr,inX,dropS, ]
  (repeat (refine And.intro ?_ ?_;focus (clear hK';intros;simp_all;done)))
  (try (refine hK' _ _ ?_;clear hK' K'))
  repeat' (first|(with_reducible apply zz1)|((with_reducible refine zz4 ?_ ?_);rfl)|((with_reducible refine zz2 ?_ (fun K' hK'=>?_));rfl;simp only [WC,simprocAttr,e20];(repeat (refine And.intro ?_ ?_;focus (clear hK';intros;simp_all;done)));(try (refine hK' _ _ ?_;clear hK' K')))|((with_reducible refine zz3 ?_ ?_);rfl;refine ⟨_,rfl,fun h=>?_,fun h=>?_⟩ <;> try exact absurd h (by decide)))
  simp only [Kret,retL,retOne,oneV,WC,simprocAttr]
end Go.Proofs.YtgecnlcbdbaneaaDoor
