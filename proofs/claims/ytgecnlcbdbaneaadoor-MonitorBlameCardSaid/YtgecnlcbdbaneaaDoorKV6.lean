/- monitor's carries and look; a symbolic walk. -/
-- TYPESE
import Derived.Test.YtgecnlcbdbaneaaDoorKV4
import Derived.Test.YtgecnlcbdbaneaaDoorKD0
set_option linter.unusedVariables false
set_option linter.unusedSimpArgs false
namespace Go.Proofs.YtgecnlcbdbaneaaDoor
open Go.RowKit Go.Sw
open Nat renaming reduceAdd → zn2
open Go.Sw renaming swp_seq → zw0

theorem idx_or (s : List UInt8) : ∀ (l : List ByteArray) (j : Nat),idxS s l j = -1 ∨ ((j : Int) ≤ idxS s l j ∧ idxS s l j < ((j + l.length : Nat) : Int))
 | [],j=>.inl rfl
 | b :: l,j=>by
  unfold idxS
  by_cases h : s = b.toList
  · rw [if_pos h]
    exact .inr ⟨Int.le_refl _,by simp only [List.length_cons];omega⟩
  · rw [if_neg h]
    rcases idx_or s l (j + 1) with h | ⟨h1,h2⟩
    · exact .inl h
    · exact .inr ⟨by omega,by simp only [List.length_cons];omega⟩
theorem ix_rng (ls : List ByteArray) (l : ByteArray) : ixL l ls = -1 ∨ (0 ≤ ixL l ls ∧ ixL l ls < (ls.length : Int)):=by
 have:=idx_or l.toList ls 0
 unfold ixL
 simpa using this
def carP (g : List Nd) (x : Nd) (c : Tp) : Bool:=subG (ofP c) (fromP g (x.to.getD 0 0))
set_option maxHeartbeats 8000000 in
set_option maxRecDepth 100000 in
theorem carries_fn (Γ : Gl) {g : List Nd} (Hg : Gd g) (hl : g.length ≤ 199) (a vd dn : Int) {x : Nd} (hx : x ∈ g) (h45 : x.k = 4 ∨ x.k = 5) {c : Tp} (hc : tCheck c = 0) :
 SFn Tryd.prog Γ 82 [.ref 0 0,.d x.d,.d c.d] [(0,.cells (monC g a vd dn))] (.d (bD (carP g x c))) [(0,.cells (monC g a vd dn))]:=by
 have hs:=(Hg.ok x hx).sh.two h45
 have hr:=(Hg.ok x hx).ok.r
 have ht : (x.to.map iD).getD 0 default = iD (x.to.getD 0 0):=by
  have : 0 < x.to.length:=by omega
  simp [List.getD,this]
 have hrr : 0 ≤ x.to.getD 0 0 ∧ x.to.getD 0 0 < (g.length : Int):=hr _ (getD_inD (by omega))
 have hf:=from_fn Γ Hg hrr
 have hG:=graphsG_fn Γ (ofP_gd hc) (from_gd Hg hl hrr.1 hrr.2)
 have ho:=of_fn Γ c
 unfold OfFn at ho
 rw [hc] at ho
 have hl0 : (0 : Int) < (x.to.length : Int):=by omega
 unfold carP monC
 generalize subG (ofP c) (fromP g (x.to.getD 0 0)) = r at *
 generalize (fromP g (x.to.getD 0 0)).map Nd.d = Z at *
 generalize (ofP c).map Nd.d = A at *
 generalize x.to.getD 0 0 = t0 at *
 obtain ⟨xk,xso,xls,xto⟩:=x
 obtain ⟨k,so,nm,ls,l⟩:=c
 simp only [Nd.d,Tp.d] at ho ht hl0 ⊢
 refine sfn_of_swp (N:=31) Tryd.func82 rfl (by decide) rfl rfl (by simp) (fun C h0=>?_)
 simp only [argS]
 repeat' (first|(with_reducible apply zz1)|((with_reducible apply zz2);rfl;intro K' hK';simp only [WE,simprocAttr];(repeat (constructor;focus (clear hK';intros;simp_all;done)));(try (apply hK';clear hK' K')))|((with_reducible apply zz3);rfl;all_goals (intro h;try exact absurd h (by decide))))
 refine stop_call h0 rfl (by simp only [WE,simprocAttr]) rfl (by simp only [keepS,Option.isSome_some,WE,simprocAttr]) (ho) ?_
 simp only [WE,simprocAttr,inX,dropS, ]
 (repeat (constructor;focus (clear hK';intros;simp_all;done)))
 (try (apply hK';clear hK' K'))
 repeat' (first|(with_reducible apply zz1)|((with_reducible apply zz2);rfl;intro K' hK';simp only [WE,simprocAttr];(repeat (constructor;focus (clear hK';intros;simp_all;done)));(try (apply hK';clear hK' K')))|((with_reducible apply zz3);rfl;all_goals (intro h;try exact absurd h (by decide))))
 (with_reducible refine swp_drawX ?_ ?_ ?_ (⟨⟨[(9,.slc Z),(10,.tup [bD r,iD 0])],[]⟩,[],[],[],[]⟩) _ rfl (fun K' hK' gops fin hgops hfin=>?_)
  · kernel_rfl
  · rfl
  · rfl
  repeat' first
   | (refine vcX_dead rfl trivial (by simp only [WE,simprocAttr,UX,UA];rfl) (by simp only [List.nil_append,List.cons_append];rfl) (by simp only [zn2];rfl) ?_)
   | (refine vcX_step rfl rfl trivial (by simp only [WE,simprocAttr,UX,UA,hf,hG,ht,hl0,List.length_map ];rfl) ?_ (by simp only [WE,simprocAttr,UX,UA];rfl) (by simp only [WE,simprocAttr,UX,UA];rfl) (by simp only [List.nil_append,List.cons_append];rfl) (by simp only [zn2];rfl) ?_;focus (first | trivial | ((repeat' apply And.intro) <;> first | trivial | assumption | (clear hK' hfin hgops;intros;simp_all;done))))
  (refine vcX_nil (by subst hfin;kernel_rfl) ?_)
  clear hfin hgops fin gops
  (try (apply hK';clear hK' K')))
 repeat' (first|(with_reducible apply zz1)|((with_reducible apply zz2);rfl;intro K' hK';simp only [WE,simprocAttr];(repeat (constructor;focus (clear hK';intros;simp_all;done)));(try (apply hK';clear hK' K')))|((with_reducible apply zz3);rfl;all_goals (intro h;try exact absurd h (by decide))))
 simp only [KretS,retL,retOne,oneV,US,WE,simprocAttr,h0]
def nxtM (g : List Nd) (x : Nd) (kd vs : Int) (c : Tp) (lab : ByteArray) : Int :=
 if x.k = kd then (if kd = 2 ∨ kd = 3 then (if x.so = vs then x.to.getD 0 0 else -1)
  else if kd = 4 ∨ kd = 5 then (if carP g x c = true then x.to.getD 1 0 else -1)
  else (if 0 ≤ ixL lab x.ls then x.to.getD (ixL lab x.ls).toNat 0 else -1)) else -1
def mineB (kd : Int) : Bool:=decide (kd = 2) || (decide (kd = 4) || decide (kd = 6))
set_option maxHeartbeats 32000000 in
set_option maxRecDepth 100000 in
theorem look_fn (Γ : Gl) {g : List Nd} (Hg : Gd g) (hl : g.length ≤ 199) {a dn : Int} (ha : 0 ≤ a ∧ a < (g.length : Int)) (hd : 0 ≤ dn ∧ dn < 4611686018427387904) (kd vs vn : Int) (vS : ByteArray) (c : Tp) (lab : ByteArray)
 (hk : kd = 2 ∨ kd = 3 ∨ kd = 4 ∨ kd = 5 ∨ kd = 6 ∨ kd = 7) (hc : kd = 4 ∨ kd = 5 → tCheck c = 0) :
 SFn Tryd.prog Γ 70 [.ref 0 0,.d (evD kd vs vn vS c lab)] [(0,.cells (monC g a 0 dn))] (.tup [])
  [(0,.cells (if 0 ≤ nxtM g (gAt g a) kd vs c lab then monC g (nxtM g (gAt g a) kd vs c lab) 0 (dn + 1) else monC g a (if mineB kd = true then 1 else 2) dn))]:=by
 have hxm:=gAt_mem ha.1 ha.2
 have hga:=gAt_d ha.1 ha.2
 have hsh:=(Hg.ok _ hxm).sh
 have hS:=Hg.sh _ hxm
 have a0:=ha.1
 have a1:=ha.2
 have hcar : (gAt g a).k = 4 ∨ (gAt g a).k = 5 → tCheck c = 0 → SFn Tryd.prog Γ 82 [.ref 0 0,.d (gAt g a).d,.d c.d] [(0,.cells (monC g a 0 dn))] (.d (bD (carP g (gAt g a) c))) [(0,.cells (monC g a 0 dn))]:=fun h1 h2=>carries_fn Γ Hg hl a 0 dn hxm h1 h2
 have hix:=indexS_fn Γ (gAt g a).ls lab (by have:=(Hg.ok _ hxm).ok.ls;omega)
 have hixr:=ix_rng (gAt g a).ls lab
 obtain ⟨nx,hnx⟩ : ∃ nx,nxtM g (gAt g a) kd vs c lab = nx:=⟨_,rfl⟩
 rw [hnx]
 unfold nxtM at hnx
 generalize carP g (gAt g a) c = car at *
 have hlen : ∀ i : Nat,i < (gAt g a).to.length → ((gAt g a).to.map iD).getD i default = iD ((gAt g a).to.getD i 0):=fun i hi=>by simp [List.getD,hi]
 have one:=hsh.one
 have two:=hsh.two
 have lss : (gAt g a).k = 6 ∨ (gAt g a).k = 7 → (gAt g a).ls.length = (gAt g a).to.length:=fun h=>(shN.lab hS h).1
 clear hsh hS Hg hxm
 generalize gAt g a = X at *
 obtain ⟨xk,xso,xls,xto⟩:=X
 obtain ⟨k,so,nm,ls,l⟩:=c
 unfold evD
 simp only [monC] at hcar ⊢
 simp only [Nd.d,Tp.d] at hga hcar hix hnx one two lss hlen hixr
 have hw : IntKind.i64.wrap (dn + 1) = dn + 1:=by rw [wrap_in (by omega) (by omega)]
 refine sfn_of_swp (N:=97) Tryd.func70 rfl (by decide) rfl rfl (by simp) (fun C h0=>?_)
 simp only [argS]
 repeat' (first|(with_reducible apply zz1)|((with_reducible apply zz2);rfl;intro K' hK';simp only [WE,simprocAttr];(repeat (constructor;focus (clear hK';intros;simp_all;done)));(try (apply hK';clear hK' K')))|((with_reducible apply zz3);rfl;all_goals (intro h;try exact absurd h (by decide))))
 (with_reducible refine swp_drawX ?_ ?_ ?_ (⟨⟨[],[]⟩,[],[],[],[]⟩) _ rfl (fun K' hK' gops fin hgops hfin=>?_)
  · kernel_rfl
  · rfl
  · rfl
  repeat' first
   | (refine vcX_dead rfl trivial (by simp only [WE,simprocAttr,UX,UA];rfl) (by simp only [List.nil_append,List.cons_append];rfl) (by simp only [zn2];rfl) ?_)
   | (refine vcX_step rfl rfl trivial (by simp only [WE,simprocAttr,UX,UA,hga,a0,a1,List.length_map ];rfl) ?_ (by simp only [WE,simprocAttr,UX,UA];rfl) (by simp only [WE,simprocAttr,UX,UA];rfl) (by simp only [List.nil_append,List.cons_append];rfl) (by simp only [zn2];rfl) ?_;focus (first | trivial | ((repeat' apply And.intro) <;> first | trivial | assumption | (clear hK' hfin hgops;intros;simp_all;done))))
  (refine vcX_nil (by subst hfin;kernel_rfl) ?_)
  clear hfin hgops fin gops
  (try (apply hK';clear hK' K')))
 refine kseq_n ?_
 refine zw0 ?_
 refine swp_midK [(0,.ref 0 0),(3,.ref 1 0),(4,.ref 12 0),(5,.d (bD (mineB kd)))] [(0,.cells [.d (.slc (g.map Nd.d)),.d (iD a),.d (iD 0),.d (iD dn)]),(1,.cells [.d (iD kd),.d (iD vs),.d (iD vn),.d (sD vS),.d (iD k),.d (iD so),.d (sD nm),.d (.slc (ls.map sD)),.d (.slc (Tp.ds l)),.d (sD lab)]),(12,.cells [.d (iD xk),.d (iD xso),.d (.slc (xls.map sD)),.d (.slc (xto.map iD))])] ?_ ?_
 · rcases hk with rfl | rfl | rfl | rfl | rfl | rfl
   all_goals
    repeat' (first|(with_reducible apply zz1)|((with_reducible apply zz2);rfl;intro K' hK';simp only [WE,simprocAttr,Bool.not_true,Bool.not_false,cond_true,cond_false,bne_self_eq_false,beq_self_eq_true,Int.reduceBEq];(repeat (constructor;focus (clear hK';intros;simp_all;done)));(try (apply hK';clear hK' K')))|((with_reducible apply zz3);rfl;all_goals (intro h;try exact absurd h (by decide))))
    refine ⟨rfl,?_⟩
    refine sub_of h0 ?_ ?_ ?_ <;> simp only [US,WE,simprocAttr,mineB,decide_true,decide_false,Bool.or_true,Bool.true_or,Bool.false_or,Bool.or_false,Int.reduceEq]
 refine zw0 ?_
 (with_reducible refine swp_region ?_ (fun K' hK'=>?_)
  · rfl
  simp only [WE,simprocAttr]
  (repeat (constructor;focus (clear hK';intros;simp_all;done))))
 refine hK' _ _ ?_
 clear hK' K'
 refine kseq_n ?_
 refine zw0 ?_
 refine swp_midK [(0,.ref 0 0),(5,.d (bD (mineB kd))),(6,.d (iD nx))] [(0,.cells [.d (.slc (g.map Nd.d)),.d (iD a),.d (iD 0),.d (iD dn)])] ?_ ?_
 · by_cases hkk : xk = kd
   rotate_left
   · have g1 : (xk == kd) = false:=by simpa using hkk
     rw [if_neg hkk] at hnx
     subst hnx
     repeat' (first|(with_reducible apply zz1)|((with_reducible apply zz2);rfl;intro K' hK';simp only [WE,simprocAttr,g1,Bool.not_true,Bool.not_false,cond_true,cond_false,bne_self_eq_false,beq_self_eq_true,Int.reduceBEq];(repeat (constructor;focus (clear hK';intros;simp_all;done)));(try (apply hK';clear hK' K')))|((with_reducible apply zz3);rfl;all_goals (intro h;try exact absurd h (by decide))))
     refine ⟨rfl,?_⟩
     refine sub_of h0 ?_ ?_ ?_ <;> simp only [US,WE,simprocAttr]
   subst hkk
   rw [if_pos rfl] at hnx
   rcases hk with rfl | rfl | rfl | rfl | rfl | rfl
   · rw [if_pos (by decide)] at hnx
     have h1:=one (by decide)
     have q0:=hlen 0 (by omega)
     have q1 : (0 : Int) < (xto.length : Int):=by omega
     by_cases hso : xso = vs
     · have g2 : (xso == vs) = true:=by simpa using hso
       rw [if_pos hso] at hnx
       rw [hnx] at q0
       repeat' (first|(with_reducible apply zz1)|((with_reducible apply zz2);rfl;intro K' hK';simp only [WE,simprocAttr,g2,q0,q1,List.length_map,Bool.not_true,Bool.not_false,cond_true,cond_false,bne_self_eq_false,beq_self_eq_true,Int.reduceBEq];(repeat (constructor;focus (clear hK';intros;simp_all;done)));(try (apply hK';clear hK' K')))|((with_reducible apply zz3);rfl;all_goals (intro h;try exact absurd h (by decide))))
       refine ⟨rfl,?_⟩
       refine sub_of h0 ?_ ?_ ?_ <;> simp only [US,WE,simprocAttr]
     · have g2 : (xso == vs) = false:=by simpa using hso
       rw [if_neg hso] at hnx
       subst hnx
       repeat' (first|(with_reducible apply zz1)|((with_reducible apply zz2);rfl;intro K' hK';simp only [WE,simprocAttr,g2,Bool.not_true,Bool.not_false,cond_true,cond_false,bne_self_eq_false,beq_self_eq_true,Int.reduceBEq];(repeat (constructor;focus (clear hK';intros;simp_all;done)));(try (apply hK';clear hK' K')))|((with_reducible apply zz3);rfl;all_goals (intro h;try exact absurd h (by decide))))
       refine ⟨rfl,?_⟩
       refine sub_of h0 ?_ ?_ ?_ <;> simp only [US,WE,simprocAttr]
   · rw [if_pos (by decide)] at hnx
     have h1:=one (by decide)
     have q0:=hlen 0 (by omega)
     have q1 : (0 : Int) < (xto.length : Int):=by omega
     by_cases hso : xso = vs
     · have g2 : (xso == vs) = true:=by simpa using hso
       rw [if_pos hso] at hnx
       rw [hnx] at q0
       repeat' (first|(with_reducible apply zz1)|((with_reducible apply zz2);rfl;intro K' hK';simp only [WE,simprocAttr,g2,q0,q1,List.length_map,Bool.not_true,Bool.not_false,cond_true,cond_false,bne_self_eq_false,beq_self_eq_true,Int.reduceBEq];(repeat (constructor;focus (clear hK';intros;simp_all;done)));(try (apply hK';clear hK' K')))|((with_reducible apply zz3);rfl;all_goals (intro h;try exact absurd h (by decide))))
       refine ⟨rfl,?_⟩
       refine sub_of h0 ?_ ?_ ?_ <;> simp only [US,WE,simprocAttr]
     · have g2 : (xso == vs) = false:=by simpa using hso
       rw [if_neg hso] at hnx
       subst hnx
       repeat' (first|(with_reducible apply zz1)|((with_reducible apply zz2);rfl;intro K' hK';simp only [WE,simprocAttr,g2,Bool.not_true,Bool.not_false,cond_true,cond_false,bne_self_eq_false,beq_self_eq_true,Int.reduceBEq];(repeat (constructor;focus (clear hK';intros;simp_all;done)));(try (apply hK';clear hK' K')))|((with_reducible apply zz3);rfl;all_goals (intro h;try exact absurd h (by decide))))
       refine ⟨rfl,?_⟩
       refine sub_of h0 ?_ ?_ ?_ <;> simp only [US,WE,simprocAttr]
   · rw [if_neg (by decide),if_pos (by decide)] at hnx
     have h1:=two (by decide)
     have q0:=hlen 1 (by omega)
     have q1 : (1 : Int) < (xto.length : Int):=by omega
     have hcar:=hcar (by decide) (hc (by decide))
     cases car with
     | true =>
      rw [if_pos rfl] at hnx
      rw [hnx] at q0
      repeat' (first|(with_reducible apply zz1)|((with_reducible apply zz2);rfl;intro K' hK';simp only [WE,simprocAttr,Bool.not_true,Bool.not_false,cond_true,cond_false,bne_self_eq_false,beq_self_eq_true,Int.reduceBEq];(repeat (constructor;focus (clear hK';intros;simp_all;done)));(try (apply hK';clear hK' K')))|((with_reducible apply zz3);rfl;all_goals (intro h;try exact absurd h (by decide))))
      refine stop_cS rfl (by simp only [UA,WE,simprocAttr]) (hcar) ?_
      simp only [WE,simprocAttr,UM, ]
      (try (apply hK';clear hK' K'))
      repeat' (first|(with_reducible apply zz1)|((with_reducible apply zz2);rfl;intro K' hK';simp only [WE,simprocAttr,q0,q1,List.length_map,Bool.not_true,Bool.not_false,cond_true,cond_false,bne_self_eq_false,beq_self_eq_true,Int.reduceBEq];(repeat (constructor;focus (clear hK';intros;simp_all;done)));(try (apply hK';clear hK' K')))|((with_reducible apply zz3);rfl;all_goals (intro h;try exact absurd h (by decide))))
      refine ⟨rfl,?_⟩
      refine sub_of h0 ?_ ?_ ?_ <;> simp only [US,WE,simprocAttr]
     | false =>
      rw [if_neg (by decide)] at hnx
      subst hnx
      repeat' (first|(with_reducible apply zz1)|((with_reducible apply zz2);rfl;intro K' hK';simp only [WE,simprocAttr,Bool.not_true,Bool.not_false,cond_true,cond_false,bne_self_eq_false,beq_self_eq_true,Int.reduceBEq];(repeat (constructor;focus (clear hK';intros;simp_all;done)));(try (apply hK';clear hK' K')))|((with_reducible apply zz3);rfl;all_goals (intro h;try exact absurd h (by decide))))
      refine stop_cS rfl (by simp only [UA,WE,simprocAttr]) (hcar) ?_
      simp only [WE,simprocAttr,UM, ]
      (try (apply hK';clear hK' K'))
      repeat' (first|(with_reducible apply zz1)|((with_reducible apply zz2);rfl;intro K' hK';simp only [WE,simprocAttr,Bool.not_true,Bool.not_false,cond_true,cond_false,bne_self_eq_false,beq_self_eq_true,Int.reduceBEq];(repeat (constructor;focus (clear hK';intros;simp_all;done)));(try (apply hK';clear hK' K')))|((with_reducible apply zz3);rfl;all_goals (intro h;try exact absurd h (by decide))))
      refine ⟨rfl,?_⟩
      refine sub_of h0 ?_ ?_ ?_ <;> simp only [US,WE,simprocAttr]
   · rw [if_neg (by decide),if_pos (by decide)] at hnx
     have h1:=two (by decide)
     have q0:=hlen 1 (by omega)
     have q1 : (1 : Int) < (xto.length : Int):=by omega
     have hcar:=hcar (by decide) (hc (by decide))
     cases car with
     | true =>
      rw [if_pos rfl] at hnx
      rw [hnx] at q0
      repeat' (first|(with_reducible apply zz1)|((with_reducible apply zz2);rfl;intro K' hK';simp only [WE,simprocAttr,Bool.not_true,Bool.not_false,cond_true,cond_false,bne_self_eq_false,beq_self_eq_true,Int.reduceBEq];(repeat (constructor;focus (clear hK';intros;simp_all;done)));(try (apply hK';clear hK' K')))|((with_reducible apply zz3);rfl;all_goals (intro h;try exact absurd h (by decide))))
      refine stop_cS rfl (by simp only [UA,WE,simprocAttr]) (hcar) ?_
      simp only [WE,simprocAttr,UM, ]
      (try (apply hK';clear hK' K'))
      repeat' (first|(with_reducible apply zz1)|((with_reducible apply zz2);rfl;intro K' hK';simp only [WE,simprocAttr,q0,q1,List.length_map,Bool.not_true,Bool.not_false,cond_true,cond_false,bne_self_eq_false,beq_self_eq_true,Int.reduceBEq];(repeat (constructor;focus (clear hK';intros;simp_all;done)));(try (apply hK';clear hK' K')))|((with_reducible apply zz3);rfl;all_goals (intro h;try exact absurd h (by decide))))
      refine ⟨rfl,?_⟩
      refine sub_of h0 ?_ ?_ ?_ <;> simp only [US,WE,simprocAttr]
     | false =>
      rw [if_neg (by decide)] at hnx
      subst hnx
      repeat' (first|(with_reducible apply zz1)|((with_reducible apply zz2);rfl;intro K' hK';simp only [WE,simprocAttr,Bool.not_true,Bool.not_false,cond_true,cond_false,bne_self_eq_false,beq_self_eq_true,Int.reduceBEq];(repeat (constructor;focus (clear hK';intros;simp_all;done)));(try (apply hK';clear hK' K')))|((with_reducible apply zz3);rfl;all_goals (intro h;try exact absurd h (by decide))))
      refine stop_cS rfl (by simp only [UA,WE,simprocAttr]) (hcar) ?_
      simp only [WE,simprocAttr,UM, ]
      (try (apply hK';clear hK' K'))
      repeat' (first|(with_reducible apply zz1)|((with_reducible apply zz2);rfl;intro K' hK';simp only [WE,simprocAttr,Bool.not_true,Bool.not_false,cond_true,cond_false,bne_self_eq_false,beq_self_eq_true,Int.reduceBEq];(repeat (constructor;focus (clear hK';intros;simp_all;done)));(try (apply hK';clear hK' K')))|((with_reducible apply zz3);rfl;all_goals (intro h;try exact absurd h (by decide))))
      refine ⟨rfl,?_⟩
      refine sub_of h0 ?_ ?_ ?_ <;> simp only [US,WE,simprocAttr]
   · rw [if_neg (by decide),if_neg (by decide)] at hnx
     have hll:=lss (by decide)
     unfold ixL at hnx hixr
     generalize hi : idxS lab.toList xls 0 = i at *
     by_cases hi0 : 0 ≤ i
     · rw [if_pos hi0] at hnx
       have hi1 : i < (xto.length : Int):=by omega
       have q0:=hlen i.toNat (by omega)
       rw [hnx] at q0
       repeat' (first|(with_reducible apply zz1)|((with_reducible apply zz2);rfl;intro K' hK';simp only [WE,simprocAttr,Bool.not_true,Bool.not_false,cond_true,cond_false,bne_self_eq_false,beq_self_eq_true,Int.reduceBEq];(repeat (constructor;focus (clear hK';intros;simp_all;done)));(try (apply hK';clear hK' K')))|((with_reducible apply zz3);rfl;all_goals (intro h;try exact absurd h (by decide))))
       refine stop_callF rfl (by simp only [WE,simprocAttr]) rfl rfl (hix) ?_
       simp only [WE,simprocAttr,inX,dropS,hi0]
       (repeat (constructor;focus (clear hK';intros;simp_all;done)))
       (try (apply hK';clear hK' K'))
       repeat' (first|(with_reducible apply zz1)|((with_reducible apply zz2);rfl;intro K' hK';simp only [WE,simprocAttr,hi0,hi1,q0,List.length_map,Bool.not_true,Bool.not_false,cond_true,cond_false,bne_self_eq_false,beq_self_eq_true,Int.reduceBEq];(repeat (constructor;focus (clear hK';intros;simp_all;done)));(try (apply hK';clear hK' K')))|((with_reducible apply zz3);rfl;all_goals (intro h;try exact absurd h (by decide))))
       refine ⟨rfl,?_⟩
       refine sub_of h0 ?_ ?_ ?_ <;> simp only [US,WE,simprocAttr]
     · rw [if_neg hi0] at hnx
       subst hnx
       repeat' (first|(with_reducible apply zz1)|((with_reducible apply zz2);rfl;intro K' hK';simp only [WE,simprocAttr,Bool.not_true,Bool.not_false,cond_true,cond_false,bne_self_eq_false,beq_self_eq_true,Int.reduceBEq];(repeat (constructor;focus (clear hK';intros;simp_all;done)));(try (apply hK';clear hK' K')))|((with_reducible apply zz3);rfl;all_goals (intro h;try exact absurd h (by decide))))
       refine stop_callF rfl (by simp only [WE,simprocAttr]) rfl rfl (hix) ?_
       simp only [WE,simprocAttr,inX,dropS,hi0]
       (repeat (constructor;focus (clear hK';intros;simp_all;done)))
       (try (apply hK';clear hK' K'))
       repeat' (first|(with_reducible apply zz1)|((with_reducible apply zz2);rfl;intro K' hK';simp only [WE,simprocAttr,hi0,Bool.not_true,Bool.not_false,cond_true,cond_false,bne_self_eq_false,beq_self_eq_true,Int.reduceBEq];(repeat (constructor;focus (clear hK';intros;simp_all;done)));(try (apply hK';clear hK' K')))|((with_reducible apply zz3);rfl;all_goals (intro h;try exact absurd h (by decide))))
       refine ⟨rfl,?_⟩
       refine sub_of h0 ?_ ?_ ?_ <;> simp only [US,WE,simprocAttr]
   · rw [if_neg (by decide),if_neg (by decide)] at hnx
     have hll:=lss (by decide)
     unfold ixL at hnx hixr
     generalize hi : idxS lab.toList xls 0 = i at *
     by_cases hi0 : 0 ≤ i
     · rw [if_pos hi0] at hnx
       have hi1 : i < (xto.length : Int):=by omega
       have q0:=hlen i.toNat (by omega)
       rw [hnx] at q0
       repeat' (first|(with_reducible apply zz1)|((with_reducible apply zz2);rfl;intro K' hK';simp only [WE,simprocAttr,Bool.not_true,Bool.not_false,cond_true,cond_false,bne_self_eq_false,beq_self_eq_true,Int.reduceBEq];(repeat (constructor;focus (clear hK';intros;simp_all;done)));(try (apply hK';clear hK' K')))|((with_reducible apply zz3);rfl;all_goals (intro h;try exact absurd h (by decide))))
       refine stop_callF rfl (by simp only [WE,simprocAttr]) rfl rfl (hix) ?_
       simp only [WE,simprocAttr,inX,dropS,hi0]
       (repeat (constructor;focus (clear hK';intros;simp_all;done)))
       (try (apply hK';clear hK' K'))
       repeat' (first|(with_reducible apply zz1)|((with_reducible apply zz2);rfl;intro K' hK';simp only [WE,simprocAttr,hi0,hi1,q0,List.length_map,Bool.not_true,Bool.not_false,cond_true,cond_false,bne_self_eq_false,beq_self_eq_true,Int.reduceBEq];(repeat (constructor;focus (clear hK';intros;simp_all;done)));(try (apply hK';clear hK' K')))|((with_reducible apply zz3);rfl;all_goals (intro h;try exact absurd h (by decide))))
       refine ⟨rfl,?_⟩
       refine sub_of h0 ?_ ?_ ?_ <;> simp only [US,WE,simprocAttr]
     · rw [if_neg hi0] at hnx
       subst hnx
       repeat' (first|(with_reducible apply zz1)|((with_reducible apply zz2);rfl;intro K' hK';simp only [WE,simprocAttr,Bool.not_true,Bool.not_false,cond_true,cond_false,bne_self_eq_false,beq_self_eq_true,Int.reduceBEq];(repeat (constructor;focus (clear hK';intros;simp_all;done)));(try (apply hK';clear hK' K')))|((with_reducible apply zz3);rfl;all_goals (intro h;try exact absurd h (by decide))))
       refine stop_callF rfl (by simp only [WE,simprocAttr]) rfl rfl (hix) ?_
       simp only [WE,simprocAttr,inX,dropS,hi0]
       (repeat (constructor;focus (clear hK';intros;simp_all;done)))
       (try (apply hK';clear hK' K'))
       repeat' (first|(with_reducible apply zz1)|((with_reducible apply zz2);rfl;intro K' hK';simp only [WE,simprocAttr,hi0,Bool.not_true,Bool.not_false,cond_true,cond_false,bne_self_eq_false,beq_self_eq_true,Int.reduceBEq];(repeat (constructor;focus (clear hK';intros;simp_all;done)));(try (apply hK';clear hK' K')))|((with_reducible apply zz3);rfl;all_goals (intro h;try exact absurd h (by decide))))
       refine ⟨rfl,?_⟩
       refine sub_of h0 ?_ ?_ ?_ <;> simp only [US,WE,simprocAttr]
 by_cases hn : 0 ≤ nx
 · rw [if_pos hn]
   repeat' (first|(with_reducible apply zz1)|((with_reducible apply zz2);rfl;intro K' hK';simp only [WE,simprocAttr,hn,hw];(repeat (constructor;focus (clear hK';intros;simp_all;done)));(try (apply hK';clear hK' K')))|((with_reducible apply zz3);rfl;all_goals (intro h;try exact absurd h (by decide))))
   simp only [KretS,retL,retOne,oneV,US,WE,simprocAttr,h0]
 · rw [if_neg hn]
   cases hm : mineB kd with
   | true =>
    rw [if_pos rfl]
    repeat' (first|(with_reducible apply zz1)|((with_reducible apply zz2);rfl;intro K' hK';simp only [WE,simprocAttr,hn,Bool.not_true,Bool.not_false,cond_true,cond_false,bne_self_eq_false,beq_self_eq_true,Int.reduceBEq];(repeat (constructor;focus (clear hK';intros;simp_all;done)));(try (apply hK';clear hK' K')))|((with_reducible apply zz3);rfl;all_goals (intro h;try exact absurd h (by decide))))
    simp only [KretS,retL,retOne,oneV,US,WE,simprocAttr,h0]
   | false =>
    rw [if_neg (by decide)]
    repeat' (first|(with_reducible apply zz1)|((with_reducible apply zz2);rfl;intro K' hK';simp only [WE,simprocAttr,hn,Bool.not_true,Bool.not_false,cond_true,cond_false,bne_self_eq_false,beq_self_eq_true,Int.reduceBEq];(repeat (constructor;focus (clear hK';intros;simp_all;done)));(try (apply hK';clear hK' K')))|((with_reducible apply zz3);rfl;all_goals (intro h;try exact absurd h (by decide))))
    simp only [KretS,retL,retOne,oneV,US,WE,simprocAttr,h0]
end Go.Proofs.YtgecnlcbdbaneaaDoor
