/- below.bound's add; a symbolic walk. -/
-- TYPESD
import Derived.Test.YtgecnlcbdbaneaaDoorKA1
set_option linter.unusedVariables false
set_option linter.unusedSimpArgs false
namespace Go.Proofs.YtgecnlcbdbaneaaDoor
open Go.RowKit Go.Sw
open _root_.List renaming nil_append → za, cons_append → zb, length_map → ze, map_nil → zi, length_append → zm, length_cons → zn, length_nil → zo, map_cons → zu, getD → zw, mem_cons → zy, not_mem_nil → za1, set_append → zb1
open _root_.And renaming intro → zf
open _root_.Int renaming toNat_natCast → zh
open _root_.Option renaming isSome_some → zq, map_some → zc1
open Nat renaming reduceAdd → zn2
open Go.Sw renaming ql8 → zw0, qo9 → zw6

theorem vh4 (q : Ky) : ∀ (ks : List Ky) (n j : Nat),(∀ m,xl5 q ks n = some m → ∃ x,qe4 (kV q) (mKf n ks) j = some (x,.int .i64 (m : Int))) ∧ (xl5 q ks n = none → qe4 (kV q) (mKf n ks) j = none)
 | [],n,j=>by simp [xl5,mKf,qe4]
 | c :: ks,n,j=>by
  have ih:=vh4 q ks (n + 1) (j + 1)
  simp only [xl5,mKf,qe4,yk0]
  by_cases h : q = c
  · simp [h]
  · simp only [h,if_false,decide_false,cond_false]
    exact ih
theorem set_mK {q : Ky} {ks : List Ky} (h : xl5 q ks 0 = none) : vn3 (kV q) (.int .i64 (ks.length : Int)) (mK ks) = mK (ks ++ [q]):=by
 have hf : qe4 (kV q) (mK ks) 0 = none:=(vh4 q ks 0 0).2 h
 rw [vj9 hf,mK_app]
theorem pl143 : vn8 Tryd.prog 143 = some [(0,1),(1,1),(2,1)]:=by kernel_rfl
def nY (b : List Nd) (q : Ky) : Nd:=if ql9 q = true then nB b q else n0
theorem vi3 {α : Type} {l : List α} {n : Nat} {x : α} (h : l[n]? = some x) : l.set n x = l:=by
 apply List.ext_getElem?
 intro i
 by_cases hi : n = i
 · subst hi
   obtain ⟨h1, -⟩:=List.getElem?_eq_some_iff.1 h
   rw [List.getElem?_set_self h1,h]
 · rw [List.getElem?_set_ne hi]
theorem lab_eq {a b : List Nd} {q : Ky} (h : chB (nA a b q) = true) : lbK a b q = labP (nA a b q).ls (nY b q).ls (ql9 q) (smK a b q):=by
 unfold lbK labP nY
 rw [if_pos h]
 cases ql9 q <;> simp
theorem yg0 {g : List Nd} {i : Int} {l : ByteArray} (hs : i ≠ -1 → (gAt g i).ls.length = (gAt g i).to.length) : i = -1 ∨ ixY g i l = -1 ∨ (0 ≤ ixY g i l ∧ ixY g i l < ((gAt g i).to.length : Int)):=by
 by_cases hi : i = -1
 · exact .inl hi
 · refine .inr ?_
   unfold ixY
   rw [if_neg hi]
   by_cases hl : l ∈ (gAt g i).ls
   · have h1:=qk8 hl
     have h2:=hs hi
     exact .inr ⟨by omega,by omega⟩
   · exact .inl (xj8 hl)
set_option maxHeartbeats 64000000 in
set_option maxRecDepth 100000 in
theorem yt9 (Γ : Gl) {A B : List Nd} (HA : Gd A) (HB : Gd B) (f : Nat) (ih : AddF Γ A B f) : AddF Γ A B (f + 1):=by
 intro q s hw hq hf
 obtain ⟨R,hR⟩ : ∃ R,qy8 A B (f + 1) q s = R:=⟨_,rfl⟩
 rw [hR]
 obtain ⟨i,k,u⟩:=q
 obtain ⟨ks,ns,sm,fl⟩:=s
 have hko:=yq4 ⟨i,k,u⟩ (mK ks) (mK_keys ks)
 have hlen:=vj2 hw.nd hw.ok
 have hA:=HA.le
 have hB:=HB.le
 have hlen2 : ks.length ≤ 80802:=Nat.le_trans hlen (by
  have : (A.length + 1) * (B.length + 1) ≤ 201 * 201:=Nat.mul_le_mul (by omega) (by omega)
  omega)
 have l1:=hw.l1
 have l2:=hw.l2
 have l3:=hw.l3
 simp only at l1 l2 l3
 simp only [kV] at hko
 unfold qy8 at hR
 cases hp : xl5 ⟨i,k,u⟩ ks 0 with
 | some n =>
  obtain ⟨x,hfind⟩:=(vh4 ⟨i,k,u⟩ ks 0 0).1 n hp
  rw [show mKf 0 ks = mK ks from rfl] at hfind
  rw [hp] at hR
  simp only at hR
  subst hR
  simp only [kV] at hfind
  simp only [bdSt,bdC]
  refine qe0 (N:=243) Tryd.func74 rfl (by decide) rfl rfl (by simp) (fun C h0=>?_)
  simp only [vg9]
  repeat' (first|(with_reducible apply zz1)|((with_reducible apply zz2);rfl;intro K' hK';simp only [WD,simprocAttr,pl143];(repeat (constructor;focus (clear hK';intros;simp_all;done)));(try (apply hK';clear hK' K')))|((with_reducible apply zz3);rfl;all_goals (intro h;try exact absurd h (by decide))))
  (with_reducible refine qi1 ?_ ?_ ?_ ([]) (fun K' hK'=>?_)
   · kernel_rfl
   · rfl
   · rfl
   simp only [WD,simprocAttr,UG,qa0,hko,hfind]
   (try (apply hK';clear hK' K')))
  repeat' (first|(with_reducible apply zz1)|((with_reducible apply zz2);rfl;intro K' hK';simp only [WD,simprocAttr];(repeat (constructor;focus (clear hK';intros;simp_all;done)));(try (apply hK';clear hK' K')))|((with_reducible apply zz3);rfl;all_goals (intro h;try exact absurd h (by decide))))
  -- TRACE
  simp only [qf8,qd5,qa2,qd6,US,WD,simprocAttr,h0]
 | none =>
  have hfind:=(vh4 ⟨i,k,u⟩ ks 0 0).2 hp
  rw [show mKf 0 ks = mK ks from rfl] at hfind
  have hset:=set_mK hp
  rw [hp] at hR
  simp only at hR
  simp only [kV] at hfind hset
  simp only [bdSt,bdC]
  have hn1 : ns.length + 1 ≤ maxLen:=by unfold maxLen;omega
  have hn2 : (ns.length + 1) * 64 ≤ 140737488355328:=by omega
  have hn3 : sm.length + 1 ≤ maxLen:=by unfold maxLen;omega
  have hn4 : sm.length + 1 ≤ 140737488355328:=by omega
  have hn5 : fl.length + 1 ≤ maxLen:=by unfold maxLen;omega
  have hn6 : fl.length + 1 ≤ 140737488355328:=by omega
  refine qe0 (N:=243) Tryd.func74 rfl (by decide) rfl rfl (by simp) (fun C h0=>?_)
  simp only [vg9]
  repeat' (first|(with_reducible apply zz1)|((with_reducible apply zz2);rfl;intro K' hK';simp only [WD,simprocAttr,pl143];(repeat (constructor;focus (clear hK';intros;simp_all;done)));(try (apply hK';clear hK' K')))|((with_reducible apply zz3);rfl;all_goals (intro h;try exact absurd h (by decide))))
  (with_reducible refine qi1 ?_ ?_ ?_ ([]) (fun K' hK'=>?_)
   · kernel_rfl
   · rfl
   · rfl
   simp only [WD,simprocAttr,UG,qa0,hko,hfind]
   (try (apply hK';clear hK' K')))
  have hm1 : ns.map Nd.d ++ [n0.d] = (ns ++ [n0]).map Nd.d:=by simp
  have hm2 : sm.map bD ++ [bD false] = (sm ++ [false]).map bD:=by simp
  have hm3 : fl.map bD ++ [bD false] = (fl ++ [false]).map bD:=by simp
  rw [show n0.d = .agg [iD 0,iD 0,.slc [],.slc []] from rfl] at hm1
  repeat' (first|(with_reducible apply zz1)|((with_reducible apply zz2);rfl;intro K' hK';simp only [WD,simprocAttr,ze,l1];(repeat (constructor;focus (clear hK';intros;simp_all;done)));(try (apply hK';clear hK' K')))|((with_reducible apply zz3);rfl;all_goals (intro h;try exact absurd h (by decide))))
  -- TRACE
  (with_reducible refine qu2 ?_ ?_ ?_ (⟨⟨[],[]⟩,[],[],[],[]⟩) _ rfl 6 [6] ([true,true,true,true,true,true,false]).toArray (by decide) ?_ (by decide) (by decide) ?_ (fun K' hK' gops fin hgops hfin=>?_)
   · kernel_rfl
   · rfl
   · rfl
   · kernel_rfl
   · kernel_rfl
   repeat' first
    | (refine qa9 rfl trivial (by simp only [WD,simprocAttr,UX,UA];rfl) (by simp only [za,zb];rfl) (by simp only [zn2];rfl) ?_)
    | (refine qa8 rfl rfl trivial (by simp only [WD,simprocAttr,UX,UA,qa0,hko,hset];rfl) ?_ (by simp only [WD,simprocAttr,UX,UA];rfl) (by simp only [WD,simprocAttr,UX,UA];rfl) (by simp only [za,zb];rfl) (by simp only [zn2];rfl) ?_;focus (first | trivial | ((repeat' apply zf) <;> first | trivial | assumption | (clear hK' hfin hgops;intros;simp_all;done))))
   (refine qb5 (by subst hfin;kernel_rfl) ?_)
   subst hgops
   clear hfin fin)
  refine qa5 (rs:=[6]) (by kernel_rfl) (by simp) (fun i hi=>?_)
  simp only [zy,za1,or_false] at hi
  obtain rfl:=hi
  refine ⟨_,rfl,rfl,?_⟩
  refine qa1 rfl rfl (by simp only [WD,simprocAttr,qa0,hko,hset];rfl) ?_ ?_
  · (repeat (refine zf ?_ ?_)) <;> first | trivial | (simp_all;done)
  simp only [WD,simprocAttr,qa0,hko,hset]
  refine qe3 (by kernel_rfl) ?_
  refine hK' _ _ ?_
  clear hK' K'
  refine zw6 ?_
  refine zw0 ?_
  -- TRACE
  (with_reducible refine qa6 ?_ ?_ ?_ (⟨⟨[],[]⟩,[],[],[],[]⟩) _ rfl (fun K' hK' gops fin hgops hfin=>?_)
   · kernel_rfl
   · rfl
   · rfl
   repeat' first
    | (refine qa9 rfl trivial (by simp only [WD,simprocAttr,UX,UA];rfl) (by simp only [za,zb];rfl) (by simp only [zn2];rfl) ?_)
    | (refine qa8 rfl rfl trivial (by simp only [WD,simprocAttr,UX,UA,hm1,hm2,hm3,hn1,hn2,hn3,hn4,hn5,hn6,ze ];rfl) ?_ (by simp only [WD,simprocAttr,UX,UA];rfl) (by simp only [WD,simprocAttr,UX,UA];rfl) (by simp only [za,zb];rfl) (by simp only [zn2];rfl) ?_;focus (first | trivial | ((repeat' apply zf) <;> first | trivial | assumption | (clear hK' hfin hgops;intros;simp_all;done))))
   (refine qb5 (by subst hfin;kernel_rfl) ?_)
   clear hfin hgops fin gops
   (try (apply hK';clear hK' K')))
  refine zw6 ?_
  refine zw0 ?_
  (with_reducible refine qg2 ?_ (fun K' hK'=>?_)
   · rfl
   simp only [WD,simprocAttr]
   (repeat (constructor;focus (clear hK';intros;simp_all;done))))
  refine hK' _ _ ?_
  clear hK' K'
  refine zw6 ?_
  refine zw0 ?_
  have hnot:=vy2 hp
  have hq0:=hq
  obtain ⟨hi0,hk0,hne,hu⟩:=hq
  simp only at hi0 hk0 hne hu
  have hb0 : (0 : Int) ≤ (ks.length : Int):=by omega
  have hbf : (ks.length : Int) < ((fl ++ [false]).length : Int):=by simp;omega
  have hgf : ((fl ++ [false]).map bD).getD ks.length default = bD false:=by simp [zw,l3]
  have hsf : ((fl ++ [false]).map bD).set ks.length (bD true) = (fl ++ [true]).map bD:=by simp [zb1,l3]
  by_cases hb : ve5 A B ⟨i,k,u⟩ = true
  · rw [if_pos hb] at hR
    subst hR
    unfold ve5 at hb
    simp only [Bool.and_eq_true,Bool.not_eq_true',qj3] at hb
    obtain ⟨⟨b1,b2⟩,b3⟩:=hb
    have gk : (k == -1) = false:=by simpa using b2
    have gi : (i == -1) = false:=by simpa using b1
    have ra : inr A i:=hi0.resolve_left b1
    have rb : inr B k:=hk0.resolve_left b2
    have a1:=ra.1
    have a2:=ra.2
    have a3:=rb.1
    have a4:=rb.2
    rw [xc4 b1] at b3
    unfold nB at b3
    simp only at b3
    have hga:=qq3 a1 a2
    have hgb:=qq3 a3 a4
    generalize gAt A i = X at *
    generalize gAt B k = Y at *
    obtain ⟨xk,xso,xls,xto⟩:=X
    obtain ⟨yk,yso,yls,yto⟩:=Y
    simp only [Nd.d] at hga hgb
    simp only at b3
    simp only [qg6]
    repeat' (first|(with_reducible apply zz1)|((with_reducible apply zz2);rfl;intro K' hK';simp only [WD,simprocAttr,gk,gi];(repeat (constructor;focus (clear hK';intros;simp_all;done)));(try (apply hK';clear hK' K')))|((with_reducible apply zz3);rfl;all_goals (intro h;try exact absurd h (by decide))))
    (with_reducible refine qa6 ?_ ?_ ?_ (⟨⟨[],[]⟩,[],[],[],[]⟩) _ rfl (fun K' hK' gops fin hgops hfin=>?_)
     · kernel_rfl
     · rfl
     · rfl
     repeat' first
      | (refine qa9 rfl trivial (by simp only [WD,simprocAttr,UX,UA];rfl) (by simp only [za,zb];rfl) (by simp only [zn2];rfl) ?_)
      | (refine qa8 rfl rfl trivial (by simp only [WD,simprocAttr,UX,UA,hga,hgb,a1,a2,a3,a4,ze ];rfl) ?_ (by simp only [WD,simprocAttr,UX,UA];rfl) (by simp only [WD,simprocAttr,UX,UA];rfl) (by simp only [za,zb];rfl) (by simp only [zn2];rfl) ?_;focus (first | trivial | ((repeat' apply zf) <;> first | trivial | assumption | (clear hK' hfin hgops;intros;simp_all;done))))
     (refine qb5 (by subst hfin;kernel_rfl) ?_)
     clear hfin hgops fin gops
     (try (apply hK';clear hK' K')))
    -- TRACE
    cases e1 : (xk != yk) with
    | true =>
     repeat' (first|(with_reducible apply zz1)|((with_reducible apply zz2);rfl;intro K' hK';simp only [WD,simprocAttr,e1,hb0,hbf,hgf,ze,zh];(repeat (constructor;focus (clear hK';intros;simp_all;done)));(try (apply hK';clear hK' K')))|((with_reducible apply zz3);rfl;all_goals (intro h;try exact absurd h (by decide))))
     refine qr0 6 rfl ?_
     simp only [WD,simprocAttr,xw6,  zh,ze,hb0,hbf,hgf]
     (repeat (constructor;focus (clear hK';intros;simp_all;done)))
     refine qt6 rfl (by simp only [WD,simprocAttr,qj8,xx6,xk0,zc1,hgf,hsf,ze];rfl) ?_ ?_
     · first | trivial | ((repeat' apply zf) <;> first | trivial | assumption | (clear hK';intros;simp_all;done))
     simp only [WD,simprocAttr,hgf,hsf,ze]
     (repeat (constructor;focus (clear hK';intros;simp_all;done)))
     (try (apply hK';clear hK' K'))
     repeat' (first|(with_reducible apply zz1)|((with_reducible apply zz2);rfl;intro K' hK';simp only [WD,simprocAttr];(repeat (constructor;focus (clear hK';intros;simp_all;done)));(try (apply hK';clear hK' K')))|((with_reducible apply zz3);rfl;all_goals (intro h;try exact absurd h (by decide))))
     simp only [qf8,qd5,qa2,qd6,US,WD,simprocAttr,h0]
    | false =>
     have e2 : (xso != yso) = true:=by
      have : xk = yk:=by simpa using e1
      subst this
      simpa using b3
     repeat' (first|(with_reducible apply zz1)|((with_reducible apply zz2);rfl;intro K' hK';simp only [WD,simprocAttr,e1,e2,hb0,hbf,hgf,ze,zh];(repeat (constructor;focus (clear hK';intros;simp_all;done)));(try (apply hK';clear hK' K')))|((with_reducible apply zz3);rfl;all_goals (intro h;try exact absurd h (by decide))))
     refine qr0 6 rfl ?_
     simp only [WD,simprocAttr,xw6,  zh,ze,hb0,hbf,hgf]
     (repeat (constructor;focus (clear hK';intros;simp_all;done)))
     refine qt6 rfl (by simp only [WD,simprocAttr,qj8,xx6,xk0,zc1,hgf,hsf,ze];rfl) ?_ ?_
     · first | trivial | ((repeat' apply zf) <;> first | trivial | assumption | (clear hK';intros;simp_all;done))
     simp only [WD,simprocAttr,hgf,hsf,ze]
     (repeat (constructor;focus (clear hK';intros;simp_all;done)))
     (try (apply hK';clear hK' K'))
     repeat' (first|(with_reducible apply zz1)|((with_reducible apply zz2);rfl;intro K' hK';simp only [WD,simprocAttr];(repeat (constructor;focus (clear hK';intros;simp_all;done)));(try (apply hK';clear hK' K')))|((with_reducible apply zz3);rfl;all_goals (intro h;try exact absurd h (by decide))))
     simp only [qf8,qd5,qa2,qd6,US,WD,simprocAttr,h0]
  rw [if_neg hb] at hR
  have hb : ve5 A B ⟨i,k,u⟩ = false:=by simpa using hb
  obtain ⟨X,hX⟩ : ∃ X,nA A B ⟨i,k,u⟩ = X:=⟨_,rfl⟩
  obtain ⟨Y,hY⟩ : ∃ Y,nY B ⟨i,k,u⟩ = Y:=⟨_,rfl⟩
  obtain ⟨xk,xso,xls,xto⟩:=X
  obtain ⟨yk,yso,yls,yto⟩:=Y
  refine qh2 [(3,.d (iD u)),(4,.ref 5 0),(5,.ref 6 0),(6,.ref 7 0),(12,.d (iD ks.length)),(13,.ref 30 0),(14,.ref 31 0)] [(0,.cells [.d (.slc (A.map Nd.d)),.d (.slc (B.map Nd.d)),.mp 1,.own 2,.own 3,.own 4]),(1,.mp (mK (ks ++ [⟨i,k,u⟩]))),(2,.row 4 ((ns ++ [n0]).map Nd.d)),(3,.row 1 ((sm ++ [false]).map bD)),(4,.row 1 ((fl ++ [false]).map bD)),(5,.cells [.ref 0 0]),(6,.cells [.d (iD i)]),(7,.cells [.d (iD k)]),(30,.cells [.d (iD xk),.d (iD xso),.d (.slc (xls.map sD)),.d (.slc (xto.map iD))]),(31,.cells [.d (iD yk),.d (iD yso),.d (.slc (yls.map sD)),.d (.slc (yto.map iD))])] ?_ ?_
  · by_cases ck : k = -1
    · subst ck
      have ci : i ≠ -1:=fun e=>hne ⟨e,rfl⟩
      have gk : ((-1 : Int) == -1) = true:=by decide
      have ra : inr A i:=hi0.resolve_left ci
      have a1:=ra.1
      have a2:=ra.2
      rw [xc4 ci] at hX
      have hyn : nY B ⟨i, -1,u⟩ = n0:=by simp [nY,ql9]
      rw [hyn] at hY
      cases hY
      have hga:=qq3 a1 a2
      simp only at hX
      rw [hX] at hga
      simp only [Nd.d] at hga
      repeat' (first|(with_reducible apply zz1)|((with_reducible apply zz2);rfl;intro K' hK';simp only [WD,simprocAttr,gk];(repeat (constructor;focus (clear hK';intros;simp_all;done)));(try (apply hK';clear hK' K')))|((with_reducible apply zz3);rfl;all_goals (intro h;try exact absurd h (by decide))))
      (with_reducible refine qa6 ?_ ?_ ?_ (⟨⟨[],[]⟩,[],[],[],[]⟩) _ rfl (fun K' hK' gops fin hgops hfin=>?_)
       · kernel_rfl
       · rfl
       · rfl
       repeat' first
        | (refine qa9 rfl trivial (by simp only [WD,simprocAttr,UX,UA];rfl) (by simp only [za,zb];rfl) (by simp only [zn2];rfl) ?_)
        | (refine qa8 rfl rfl trivial (by simp only [WD,simprocAttr,UX,UA,hga,a1,a2,ze ];rfl) ?_ (by simp only [WD,simprocAttr,UX,UA];rfl) (by simp only [WD,simprocAttr,UX,UA];rfl) (by simp only [za,zb];rfl) (by simp only [zn2];rfl) ?_;focus (first | trivial | ((repeat' apply zf) <;> first | trivial | assumption | (clear hK' hfin hgops;intros;simp_all;done))))
       (refine qb5 (by subst hfin;kernel_rfl) ?_)
       clear hfin hgops fin gops
       (try (apply hK';clear hK' K')))
      repeat' (first|(with_reducible apply zz1)|((with_reducible apply zz2);rfl;intro K' hK';simp only [WD,simprocAttr];(repeat (constructor;focus (clear hK';intros;simp_all;done)));(try (apply hK';clear hK' K')))|((with_reducible apply zz3);rfl;all_goals (intro h;try exact absurd h (by decide))))
      refine ⟨rfl,?_⟩
      -- TRACE
      refine qa3 h0 ?_ ?_ ?_ <;> simp only [US,WD,simprocAttr,zi]
    · have gk : (k == -1) = false:=by simpa using ck
      have rb : inr B k:=hk0.resolve_left ck
      have a3:=rb.1
      have a4:=rb.2
      have hgb:=qq3 a3 a4
      by_cases ci : i = -1
      · subst ci
        have gi : ((-1 : Int) == -1) = true:=by decide
        rw [nA_k rfl] at hX
        have hyn : nY B ⟨-1,k,u⟩ = n0:=by simp [nY,ql9]
        rw [hyn] at hY
        cases hY
        simp only at hX
        rw [hX] at hgb
        simp only [Nd.d] at hgb
        repeat' (first|(with_reducible apply zz1)|((with_reducible apply zz2);rfl;intro K' hK';simp only [WD,simprocAttr,gk,gi];(repeat (constructor;focus (clear hK';intros;simp_all;done)));(try (apply hK';clear hK' K')))|((with_reducible apply zz3);rfl;all_goals (intro h;try exact absurd h (by decide))))
        (with_reducible refine qa6 ?_ ?_ ?_ (⟨⟨[],[]⟩,[],[],[],[]⟩) _ rfl (fun K' hK' gops fin hgops hfin=>?_)
         · kernel_rfl
         · rfl
         · rfl
         repeat' first
          | (refine qa9 rfl trivial (by simp only [WD,simprocAttr,UX,UA];rfl) (by simp only [za,zb];rfl) (by simp only [zn2];rfl) ?_)
          | (refine qa8 rfl rfl trivial (by simp only [WD,simprocAttr,UX,UA,hgb,a3,a4,ze ];rfl) ?_ (by simp only [WD,simprocAttr,UX,UA];rfl) (by simp only [WD,simprocAttr,UX,UA];rfl) (by simp only [za,zb];rfl) (by simp only [zn2];rfl) ?_;focus (first | trivial | ((repeat' apply zf) <;> first | trivial | assumption | (clear hK' hfin hgops;intros;simp_all;done))))
         (refine qb5 (by subst hfin;kernel_rfl) ?_)
         clear hfin hgops fin gops
         (try (apply hK';clear hK' K')))
        repeat' (first|(with_reducible apply zz1)|((with_reducible apply zz2);rfl;intro K' hK';simp only [WD,simprocAttr];(repeat (constructor;focus (clear hK';intros;simp_all;done)));(try (apply hK';clear hK' K')))|((with_reducible apply zz3);rfl;all_goals (intro h;try exact absurd h (by decide))))
        refine ⟨rfl,?_⟩
        refine qa3 h0 ?_ ?_ ?_ <;> simp only [US,WD,simprocAttr,zi]
      · have gi : (i == -1) = false:=by simpa using ci
        have ra : inr A i:=hi0.resolve_left ci
        have a1:=ra.1
        have a2:=ra.2
        have hga:=qq3 a1 a2
        have hs:=va7 hb ck
        rw [hX] at hs
        simp only at hs
        rw [xc4 ci] at hX
        have hyn : nY B ⟨i,k,u⟩ = gAt B k:=by simp [nY,ql9,ci,ck,nB]
        rw [hyn] at hY
        simp only at hX
        rw [hX] at hga
        rw [hY] at hgb hs
        simp only [Nd.d] at hga hgb
        obtain ⟨rfl,rfl⟩:=hs
        have e1 : (yk != yk) = false:=by simp
        have e2 : (yso != yso) = false:=by simp
        repeat' (first|(with_reducible apply zz1)|((with_reducible apply zz2);rfl;intro K' hK';simp only [WD,simprocAttr,gk,gi];(repeat (constructor;focus (clear hK';intros;simp_all;done)));(try (apply hK';clear hK' K')))|((with_reducible apply zz3);rfl;all_goals (intro h;try exact absurd h (by decide))))
        (with_reducible refine qa6 ?_ ?_ ?_ (⟨⟨[],[]⟩,[],[],[],[]⟩) _ rfl (fun K' hK' gops fin hgops hfin=>?_)
         · kernel_rfl
         · rfl
         · rfl
         repeat' first
          | (refine qa9 rfl trivial (by simp only [WD,simprocAttr,UX,UA];rfl) (by simp only [za,zb];rfl) (by simp only [zn2];rfl) ?_)
          | (refine qa8 rfl rfl trivial (by simp only [WD,simprocAttr,UX,UA,hga,hgb,a1,a2,a3,a4,ze ];rfl) ?_ (by simp only [WD,simprocAttr,UX,UA];rfl) (by simp only [WD,simprocAttr,UX,UA];rfl) (by simp only [za,zb];rfl) (by simp only [zn2];rfl) ?_;focus (first | trivial | ((repeat' apply zf) <;> first | trivial | assumption | (clear hK' hfin hgops;intros;simp_all;done))))
         (refine qb5 (by subst hfin;kernel_rfl) ?_)
         clear hfin hgops fin gops
         (try (apply hK';clear hK' K')))
        repeat' (first|(with_reducible apply zz1)|((with_reducible apply zz2);rfl;intro K' hK';simp only [WD,simprocAttr,e1,e2];(repeat (constructor;focus (clear hK';intros;simp_all;done)));(try (apply hK';clear hK' K')))|((with_reducible apply zz3);rfl;all_goals (intro h;try exact absurd h (by decide))))
        refine ⟨rfl,?_⟩
        refine qa3 h0 ?_ ?_ ?_ <;> simp only [US,WD,simprocAttr]
  have hchk:=xf9 HA HB ⟨i,k,u⟩ hq0 hb
  obtain ⟨hw1,he1⟩:=xj5 hw hq0 hnot (smK A B ⟨i,k,u⟩) false
  have hXs:=ye7 HA HB hq0
  rw [hX] at hXs
  have hni : i ≠ -1 → gAt A i = ⟨xk,xso,xls,xto⟩:=fun h=>by rw [← xc4 (a:=A) (b:=B) (q:=⟨i,k,u⟩) h];exact hX
  have hnk : k ≠ -1 → (gAt B k).k = xk:=fun h=>by
   have:=(va7 hb h).1
   rw [hX] at this
   exact this
  have hsB : k ≠ -1 → shN (gAt B k):=fun h=>HB.shN (hk0.resolve_left h)
  have hsA : i ≠ -1 → shN (gAt A i):=fun h=>HA.shN (hi0.resolve_left h)
  have hsm : ¬ (xk = 6 ∨ xk = 7) → smK A B ⟨i,k,u⟩ = false:=fun h=>by
   unfold smK chB
   rw [hX]
   simp only [not_or] at h
   simp [h.1,h.2]
  have hfl : ¬ (xk = 6 ∨ xk = 7) → flK A B ⟨i,k,u⟩ = false:=fun h=>by
   unfold flK chB
   rw [hX]
   simp only [not_or] at h
   simp [h.1,h.2]
  have hlb : ¬ (xk = 6 ∨ xk = 7) → lbK A B ⟨i,k,u⟩ = []:=fun h=>by
   unfold lbK chB
   rw [hX]
   simp only [not_or] at h
   simp [h.1,h.2]
  have hput : ∀ (l : List Nd) (lb : List ByteArray) (tos : List Int),(l.map Nd.d).set ks.length (.agg [iD xk,iD xso,.slc (lb.map sD),.slc (tos.map iD)]) = (l.set ks.length ⟨xk,xso,lb,tos⟩).map Nd.d:=fun l lb tos=>by rw [List.map_set];rfl
  have hget : ∀ (b : Bd),ExB (qg6 ⟨ks,ns,sm,fl⟩ ⟨i,k,u⟩ (smK A B ⟨i,k,u⟩) false) b → b.ns.length = b.ks.length → (b.ns.map Nd.d).getD ks.length default = .agg [iD 0,iD 0,.slc [],.slc []] ∧ (ks.length : Int) < (b.ns.length : Int) ∧ b.fl[ks.length]? = some false:=fun b hx hl=>by
   have h1:=hx.len
   have h2:=hx.ns ks.length (by simp [qg6])
   have h3:=hx.fl ks.length (by simp [qg6])
   simp only [qg6,zm,zn,zo] at h1 h2 h3
   rw [qk3 _ _ l1] at h2
   rw [qk3 _ _ l3] at h3
   exact ⟨by simp [zw,h2,n0,Nd.d],by omega,h3⟩
  by_cases k23 : xk = 2 ∨ xk = 3
  · have k67 : ¬ (xk = 6 ∨ xk = 7):=by omega
    have hch : chK A B ⟨i,k,u⟩ = [nxK A B ⟨i,k,u⟩ 0 0 u]:=by unfold chK;rw [hX];rw [if_pos k23]
    rw [hch] at hR hchk
    rw [hsm k67] at hR hw1 hget
    have hcok:=hchk _ (List.mem_singleton.2 rfl)
    have hok:=vg2 (fun q h hb=>xf9 HA HB q h hb) f _ _ hw1 hcok (by simp only [qg6,zm,zn,zo];simp only at hf;omega)
    have hc:=va4 Γ HA HB f ih i k 0 0 u (qg6 ⟨ks,ns,sm,fl⟩ ⟨i,k,u⟩ false false) xk xso [] hw1 hi0 hk0
     (by
      by_cases h : i = -1
      · exact .inl h
      · refine .inr (.inr ⟨Int.le_refl _,?_⟩)
        have:=(hsA h).one (by rw [hni h];exact k23)
        omega)
     (by
      by_cases h : k = -1
      · exact .inl h
      · refine .inr (.inr ⟨Int.le_refl _,?_⟩)
        have:=(hsB h).one (by rw [hnk h];exact k23)
        omega)
     hcok (by simp only [qg6,zm,zn,zo];simp only at hf;omega) (by simp)
    simp only [qt1,nxK] at hR hok
    generalize qy8 A B f ⟨goK A i 0,goK B k 0,u⟩ (qg6 ⟨ks,ns,sm,fl⟩ ⟨i,k,u⟩ false false) = r1 at hc hR hok
    obtain ⟨m1,b1⟩:=r1
    obtain ⟨g1,g2,g3⟩:=hget b1 hok.ex hok.wf.l1
    simp only [qp9,hlb k67,hfl k67,hX] at hR
    rw [vi3 g3] at hR
    subst hR
    have hp1:=hput b1.ns [] [m1]
    simp only [xx1,bdC,qg6,zi,za] at hc
    simp only [zi,zu] at hp1 hc
    have e3 : (xk == 2) = false → (xk == 3) = true:=fun h=>by
     have : xk ≠ 2:=by simpa using h
     simpa using k23.resolve_left this
    cases e2 : (xk == 2) with
    | true =>
     repeat' (first|(with_reducible apply zz1)|((with_reducible apply zz2);rfl;intro K' hK';simp only [WD,simprocAttr,e2];(repeat (constructor;focus (clear hK';intros;simp_all;done)));(try (apply hK';clear hK' K')))|((with_reducible apply zz3);rfl;all_goals (intro h;try exact absurd h (by decide))))
     -- TRACE
     refine qn4 (qn2 32 3 33 1 rfl rfl rfl (by decide)) ?_
     simp only [WD,simprocAttr]
     refine qf3 rfl rfl (by simp only [UA,WD,simprocAttr]) (by simp only [UA,WD,simprocAttr]) (by simp only [UA,WD,simprocAttr]) (by simp only [UA,WD,simprocAttr]) (by simp only [UA,WD,simprocAttr]) (hc) ?_
     simp only [WD,simprocAttr,UM, ]
     (try (apply hK';clear hK' K'))
     repeat' (first|(with_reducible apply zz1)|((with_reducible apply zz2);rfl;intro K' hK';simp only [WD,simprocAttr];(repeat (constructor;focus (clear hK';intros;simp_all;done)));(try (apply hK';clear hK' K')))|((with_reducible apply zz3);rfl;all_goals (intro h;try exact absurd h (by decide))))
     -- TRACE
     refine qj4 32 2 34 1 rfl rfl rfl (by decide) ?_
     simp only [WD,simprocAttr]
     refine ql3 [33,34] h0 (by simp only [zq,UF,WD,simprocAttr]) ?_
     simp only [WD,simprocAttr,UF]
     -- TRACE
     (with_reducible refine qa6 ?_ ?_ ?_ (⟨⟨[],[]⟩,[],[],[],[]⟩) _ rfl (fun K' hK' gops fin hgops hfin=>?_)
      · kernel_rfl
      · rfl
      · rfl
      repeat' first
       | (refine qa9 rfl trivial (by simp only [WD,simprocAttr,UX,UA];rfl) (by simp only [za,zb];rfl) (by simp only [zn2];rfl) ?_)
       | (refine qa8 rfl rfl trivial (by simp only [WD,simprocAttr,UX,UA,hb0,g1,g2,hp1,ze,zh,zi,zu ];rfl) ?_ (by simp only [WD,simprocAttr,UX,UA];rfl) (by simp only [WD,simprocAttr,UX,UA];rfl) (by simp only [za,zb];rfl) (by simp only [zn2];rfl) ?_;focus (first | trivial | ((repeat' apply zf) <;> first | trivial | assumption | (clear hK' hfin hgops;intros;simp_all;done))))
      (refine qb5 (by subst hfin;kernel_rfl) ?_)
      clear hfin hgops fin gops
      (try (apply hK';clear hK' K')))
     repeat' (first|(with_reducible apply zz1)|((with_reducible apply zz2);rfl;intro K' hK';simp only [WD,simprocAttr];(repeat (constructor;focus (clear hK';intros;simp_all;done)));(try (apply hK';clear hK' K')))|((with_reducible apply zz3);rfl;all_goals (intro h;try exact absurd h (by decide))))
     simp only [qf8,qd5,qa2,qd6,US,WD,simprocAttr,h0]
    | false =>
     repeat' (first|(with_reducible apply zz1)|((with_reducible apply zz2);rfl;intro K' hK';simp only [WD,simprocAttr,e2,e3 e2];(repeat (constructor;focus (clear hK';intros;simp_all;done)));(try (apply hK';clear hK' K')))|((with_reducible apply zz3);rfl;all_goals (intro h;try exact absurd h (by decide))))
     refine qn4 (qn2 32 3 33 1 rfl rfl rfl (by decide)) ?_
     simp only [WD,simprocAttr]
     refine qf3 rfl rfl (by simp only [UA,WD,simprocAttr]) (by simp only [UA,WD,simprocAttr]) (by simp only [UA,WD,simprocAttr]) (by simp only [UA,WD,simprocAttr]) (by simp only [UA,WD,simprocAttr]) (hc) ?_
     simp only [WD,simprocAttr,UM, ]
     (try (apply hK';clear hK' K'))
     repeat' (first|(with_reducible apply zz1)|((with_reducible apply zz2);rfl;intro K' hK';simp only [WD,simprocAttr];(repeat (constructor;focus (clear hK';intros;simp_all;done)));(try (apply hK';clear hK' K')))|((with_reducible apply zz3);rfl;all_goals (intro h;try exact absurd h (by decide))))
     refine qj4 32 2 34 1 rfl rfl rfl (by decide) ?_
     simp only [WD,simprocAttr]
     refine ql3 [33,34] h0 (by simp only [zq,UF,WD,simprocAttr]) ?_
     simp only [WD,simprocAttr,UF]
     (with_reducible refine qa6 ?_ ?_ ?_ (⟨⟨[],[]⟩,[],[],[],[]⟩) _ rfl (fun K' hK' gops fin hgops hfin=>?_)
      · kernel_rfl
      · rfl
      · rfl
      repeat' first
       | (refine qa9 rfl trivial (by simp only [WD,simprocAttr,UX,UA];rfl) (by simp only [za,zb];rfl) (by simp only [zn2];rfl) ?_)
       | (refine qa8 rfl rfl trivial (by simp only [WD,simprocAttr,UX,UA,hb0,g1,g2,hp1,ze,zh,zi,zu ];rfl) ?_ (by simp only [WD,simprocAttr,UX,UA];rfl) (by simp only [WD,simprocAttr,UX,UA];rfl) (by simp only [za,zb];rfl) (by simp only [zn2];rfl) ?_;focus (first | trivial | ((repeat' apply zf) <;> first | trivial | assumption | (clear hK' hfin hgops;intros;simp_all;done))))
      (refine qb5 (by subst hfin;kernel_rfl) ?_)
      clear hfin hgops fin gops
      (try (apply hK';clear hK' K')))
     repeat' (first|(with_reducible apply zz1)|((with_reducible apply zz2);rfl;intro K' hK';simp only [WD,simprocAttr];(repeat (constructor;focus (clear hK';intros;simp_all;done)));(try (apply hK';clear hK' K')))|((with_reducible apply zz3);rfl;all_goals (intro h;try exact absurd h (by decide))))
     simp only [qf8,qd5,qa2,qd6,US,WD,simprocAttr,h0]
  by_cases k4 : xk = 4
  · have k45 : xk = 4 ∨ xk = 5:=by omega
    have k67 : ¬ (xk = 6 ∨ xk = 7):=by omega
    have e2 : (xk == 2) = false:=by simp;omega
    have e3 : (xk == 3) = false:=by simp;omega
    have e4 : (xk == 4) = true:=by simpa using k4
    have hch : chK A B ⟨i,k,u⟩ = [nxK A B ⟨i,k,u⟩ 0 0 (1 - u),nxK A B ⟨i,k,u⟩ 1 1 u]:=by unfold chK;rw [hX];rw [if_neg k23,if_pos k4]
    have hwu : IntKind.i64.wrap (1 - u) = 1 - u:=by rw [qd7 (by omega) (by omega)]
    rw [hch] at hR hchk
    rw [hsm k67] at hR hw1 hget
    have hcok:=hchk (nxK A B ⟨i,k,u⟩ 0 0 (1 - u)) (by simp)
    have hcok2:=hchk (nxK A B ⟨i,k,u⟩ 1 1 u) (by simp)
    have hok:=vg2 (fun q h hb=>xf9 HA HB q h hb) f _ _ hw1 hcok (by simp only [qg6,zm,zn,zo];simp only at hf;omega)
    have hc:=va4 Γ HA HB f ih i k 0 0 (1 - u) (qg6 ⟨ks,ns,sm,fl⟩ ⟨i,k,u⟩ false false) xk xso [] hw1 hi0 hk0
     (by
      by_cases h : i = -1
      · exact .inl h
      · refine .inr (.inr ⟨by decide,?_⟩)
        have:=(hsA h).two (by rw [hni h];exact k45)
        omega)
     (by
      by_cases h : k = -1
      · exact .inl h
      · refine .inr (.inr ⟨by decide,?_⟩)
        have:=(hsB h).two (by rw [hnk h];exact k45)
        omega)
     hcok (by simp only [qg6,zm,zn,zo];simp only at hf;omega) (by simp)
    simp only [qt1,nxK] at hR hok
    generalize qy8 A B f ⟨goK A i 0,goK B k 0,1 - u⟩ (qg6 ⟨ks,ns,sm,fl⟩ ⟨i,k,u⟩ false false) = r1 at hc hR hok
    obtain ⟨m1,b1⟩:=r1
    simp only at hR
    have hl1:=hok.ex.len
    simp only [qg6,zm,zn,zo] at hl1
    have hok2:=vg2 (fun q h hb=>xf9 HA HB q h hb) f _ _ hok.wf hcok2 (by simp only at hf;simp only;omega)
    have hc2:=va4 Γ HA HB f ih i k 1 1 u b1 xk xso [m1] hok.wf hi0 hk0
     (by
      by_cases h : i = -1
      · exact .inl h
      · refine .inr (.inr ⟨by decide,?_⟩)
        have:=(hsA h).two (by rw [hni h];exact k45)
        omega)
     (by
      by_cases h : k = -1
      · exact .inl h
      · refine .inr (.inr ⟨by decide,?_⟩)
        have:=(hsB h).two (by rw [hnk h];exact k45)
        omega)
     hcok2 (by simp only at hf;omega) (by simp)
    simp only [nxK] at hok2
    generalize qy8 A B f ⟨goK A i 1,goK B k 1,u⟩ b1 = r2 at hc2 hR hok2
    obtain ⟨m2,b2⟩:=r2
    obtain ⟨g1,g2,g3⟩:=hget b2 (hok.ex.trans hok2.ex) hok2.wf.l1
    simp only [qp9,hlb k67,hfl k67,hX] at hR
    rw [vi3 g3] at hR
    subst hR
    have hp1:=hput b2.ns [] [m1,m2]
    simp only [xx1,bdC,qg6,zi,za,zb] at hc hc2
    simp only [zi,zu] at hp1 hc hc2
    · repeat' (first|(with_reducible apply zz1)|((with_reducible apply zz2);rfl;intro K' hK';simp only [WD,simprocAttr,e2,e3,e4,hwu];(repeat (constructor;focus (clear hK';intros;simp_all;done)));(try (apply hK';clear hK' K')))|((with_reducible apply zz3);rfl;all_goals (intro h;try exact absurd h (by decide))))
      refine qn4 (qn2 32 3 33 1 rfl rfl rfl (by decide)) ?_
      simp only [WD,simprocAttr]
      refine qf3 rfl rfl (by simp only [UA,WD,simprocAttr]) (by simp only [UA,WD,simprocAttr]) (by simp only [UA,WD,simprocAttr]) (by simp only [UA,WD,simprocAttr]) (by simp only [UA,WD,simprocAttr]) (hc) ?_
      simp only [WD,simprocAttr,UM, ]
      (try (apply hK';clear hK' K'))
      repeat' (first|(with_reducible apply zz1)|((with_reducible apply zz2);rfl;intro K' hK';simp only [WD,simprocAttr];(repeat (constructor;focus (clear hK';intros;simp_all;done)));(try (apply hK';clear hK' K')))|((with_reducible apply zz3);rfl;all_goals (intro h;try exact absurd h (by decide))))
      refine qf3 rfl rfl (by simp only [UA,WD,simprocAttr]) (by simp only [UA,WD,simprocAttr]) (by simp only [UA,WD,simprocAttr]) (by simp only [UA,WD,simprocAttr]) (by simp only [UA,WD,simprocAttr]) (hc2) ?_
      simp only [WD,simprocAttr,UM, ]
      (try (apply hK';clear hK' K'))
      repeat' (first|(with_reducible apply zz1)|((with_reducible apply zz2);rfl;intro K' hK';simp only [WD,simprocAttr];(repeat (constructor;focus (clear hK';intros;simp_all;done)));(try (apply hK';clear hK' K')))|((with_reducible apply zz3);rfl;all_goals (intro h;try exact absurd h (by decide))))
      refine qj4 32 2 34 1 rfl rfl rfl (by decide) ?_
      simp only [WD,simprocAttr]
      refine ql3 [33,34] h0 (by simp only [zq,UF,WD,simprocAttr]) ?_
      simp only [WD,simprocAttr,UF]
      (with_reducible refine qa6 ?_ ?_ ?_ (⟨⟨[],[]⟩,[],[],[],[]⟩) _ rfl (fun K' hK' gops fin hgops hfin=>?_)
       · kernel_rfl
       · rfl
       · rfl
       repeat' first
        | (refine qa9 rfl trivial (by simp only [WD,simprocAttr,UX,UA];rfl) (by simp only [za,zb];rfl) (by simp only [zn2];rfl) ?_)
        | (refine qa8 rfl rfl trivial (by simp only [WD,simprocAttr,UX,UA,hb0,g1,g2,hp1,ze,zh,zi,zu ];rfl) ?_ (by simp only [WD,simprocAttr,UX,UA];rfl) (by simp only [WD,simprocAttr,UX,UA];rfl) (by simp only [za,zb];rfl) (by simp only [zn2];rfl) ?_;focus (first | trivial | ((repeat' apply zf) <;> first | trivial | assumption | (clear hK' hfin hgops;intros;simp_all;done))))
       (refine qb5 (by subst hfin;kernel_rfl) ?_)
       clear hfin hgops fin gops
       (try (apply hK';clear hK' K')))
      repeat' (first|(with_reducible apply zz1)|((with_reducible apply zz2);rfl;intro K' hK';simp only [WD,simprocAttr];(repeat (constructor;focus (clear hK';intros;simp_all;done)));(try (apply hK';clear hK' K')))|((with_reducible apply zz3);rfl;all_goals (intro h;try exact absurd h (by decide))))
      simp only [qf8,qd5,qa2,qd6,US,WD,simprocAttr,h0]
  by_cases k5 : xk = 5
  · have k45 : xk = 4 ∨ xk = 5:=by omega
    have k67 : ¬ (xk = 6 ∨ xk = 7):=by omega
    have e2 : (xk == 2) = false:=by simp;omega
    have e3 : (xk == 3) = false:=by simp;omega
    have e4 : (xk == 4) = false:=by simpa using k4
    have e5 : (xk == 5) = true:=by simpa using k5
    have hch : chK A B ⟨i,k,u⟩ = [nxK A B ⟨i,k,u⟩ 0 0 u,nxK A B ⟨i,k,u⟩ 1 1 u]:=by unfold chK;rw [hX];rw [if_neg k23,if_neg k4,if_pos k5]
    rw [hch] at hR hchk
    rw [hsm k67] at hR hw1 hget
    have hcok:=hchk (nxK A B ⟨i,k,u⟩ 0 0 (u)) (by simp)
    have hcok2:=hchk (nxK A B ⟨i,k,u⟩ 1 1 u) (by simp)
    have hok:=vg2 (fun q h hb=>xf9 HA HB q h hb) f _ _ hw1 hcok (by simp only [qg6,zm,zn,zo];simp only at hf;omega)
    have hc:=va4 Γ HA HB f ih i k 0 0 (u) (qg6 ⟨ks,ns,sm,fl⟩ ⟨i,k,u⟩ false false) xk xso [] hw1 hi0 hk0
     (by
      by_cases h : i = -1
      · exact .inl h
      · refine .inr (.inr ⟨by decide,?_⟩)
        have:=(hsA h).two (by rw [hni h];exact k45)
        omega)
     (by
      by_cases h : k = -1
      · exact .inl h
      · refine .inr (.inr ⟨by decide,?_⟩)
        have:=(hsB h).two (by rw [hnk h];exact k45)
        omega)
     hcok (by simp only [qg6,zm,zn,zo];simp only at hf;omega) (by simp)
    simp only [qt1,nxK] at hR hok
    generalize qy8 A B f ⟨goK A i 0,goK B k 0,u⟩ (qg6 ⟨ks,ns,sm,fl⟩ ⟨i,k,u⟩ false false) = r1 at hc hR hok
    obtain ⟨m1,b1⟩:=r1
    simp only at hR
    have hl1:=hok.ex.len
    simp only [qg6,zm,zn,zo] at hl1
    have hok2:=vg2 (fun q h hb=>xf9 HA HB q h hb) f _ _ hok.wf hcok2 (by simp only at hf;simp only;omega)
    have hc2:=va4 Γ HA HB f ih i k 1 1 u b1 xk xso [m1] hok.wf hi0 hk0
     (by
      by_cases h : i = -1
      · exact .inl h
      · refine .inr (.inr ⟨by decide,?_⟩)
        have:=(hsA h).two (by rw [hni h];exact k45)
        omega)
     (by
      by_cases h : k = -1
      · exact .inl h
      · refine .inr (.inr ⟨by decide,?_⟩)
        have:=(hsB h).two (by rw [hnk h];exact k45)
        omega)
     hcok2 (by simp only at hf;omega) (by simp)
    simp only [nxK] at hok2
    generalize qy8 A B f ⟨goK A i 1,goK B k 1,u⟩ b1 = r2 at hc2 hR hok2
    obtain ⟨m2,b2⟩:=r2
    obtain ⟨g1,g2,g3⟩:=hget b2 (hok.ex.trans hok2.ex) hok2.wf.l1
    simp only [qp9,hlb k67,hfl k67,hX] at hR
    rw [vi3 g3] at hR
    subst hR
    have hp1:=hput b2.ns [] [m1,m2]
    simp only [xx1,bdC,qg6,zi,za,zb] at hc hc2
    simp only [zi,zu] at hp1 hc hc2
    · repeat' (first|(with_reducible apply zz1)|((with_reducible apply zz2);rfl;intro K' hK';simp only [WD,simprocAttr,e2,e3,e4,e5];(repeat (constructor;focus (clear hK';intros;simp_all;done)));(try (apply hK';clear hK' K')))|((with_reducible apply zz3);rfl;all_goals (intro h;try exact absurd h (by decide))))
      refine qn4 (qn2 32 3 33 1 rfl rfl rfl (by decide)) ?_
      simp only [WD,simprocAttr]
      refine qf3 rfl rfl (by simp only [UA,WD,simprocAttr]) (by simp only [UA,WD,simprocAttr]) (by simp only [UA,WD,simprocAttr]) (by simp only [UA,WD,simprocAttr]) (by simp only [UA,WD,simprocAttr]) (hc) ?_
      simp only [WD,simprocAttr,UM, ]
      (try (apply hK';clear hK' K'))
      repeat' (first|(with_reducible apply zz1)|((with_reducible apply zz2);rfl;intro K' hK';simp only [WD,simprocAttr];(repeat (constructor;focus (clear hK';intros;simp_all;done)));(try (apply hK';clear hK' K')))|((with_reducible apply zz3);rfl;all_goals (intro h;try exact absurd h (by decide))))
      refine qf3 rfl rfl (by simp only [UA,WD,simprocAttr]) (by simp only [UA,WD,simprocAttr]) (by simp only [UA,WD,simprocAttr]) (by simp only [UA,WD,simprocAttr]) (by simp only [UA,WD,simprocAttr]) (hc2) ?_
      simp only [WD,simprocAttr,UM, ]
      (try (apply hK';clear hK' K'))
      repeat' (first|(with_reducible apply zz1)|((with_reducible apply zz2);rfl;intro K' hK';simp only [WD,simprocAttr];(repeat (constructor;focus (clear hK';intros;simp_all;done)));(try (apply hK';clear hK' K')))|((with_reducible apply zz3);rfl;all_goals (intro h;try exact absurd h (by decide))))
      refine qj4 32 2 34 1 rfl rfl rfl (by decide) ?_
      simp only [WD,simprocAttr]
      refine ql3 [33,34] h0 (by simp only [zq,UF,WD,simprocAttr]) ?_
      simp only [WD,simprocAttr,UF]
      (with_reducible refine qa6 ?_ ?_ ?_ (⟨⟨[],[]⟩,[],[],[],[]⟩) _ rfl (fun K' hK' gops fin hgops hfin=>?_)
       · kernel_rfl
       · rfl
       · rfl
       repeat' first
        | (refine qa9 rfl trivial (by simp only [WD,simprocAttr,UX,UA];rfl) (by simp only [za,zb];rfl) (by simp only [zn2];rfl) ?_)
        | (refine qa8 rfl rfl trivial (by simp only [WD,simprocAttr,UX,UA,hb0,g1,g2,hp1,ze,zh,zi,zu ];rfl) ?_ (by simp only [WD,simprocAttr,UX,UA];rfl) (by simp only [WD,simprocAttr,UX,UA];rfl) (by simp only [za,zb];rfl) (by simp only [zn2];rfl) ?_;focus (first | trivial | ((repeat' apply zf) <;> first | trivial | assumption | (clear hK' hfin hgops;intros;simp_all;done))))
       (refine qb5 (by subst hfin;kernel_rfl) ?_)
       clear hfin hgops fin gops
       (try (apply hK';clear hK' K')))
      repeat' (first|(with_reducible apply zz1)|((with_reducible apply zz2);rfl;intro K' hK';simp only [WD,simprocAttr];(repeat (constructor;focus (clear hK';intros;simp_all;done)));(try (apply hK';clear hK' K')))|((with_reducible apply zz3);rfl;all_goals (intro h;try exact absurd h (by decide))))
      simp only [qf8,qd5,qa2,qd6,US,WD,simprocAttr,h0]
  by_cases k67 : xk = 6 ∨ xk = 7
  rotate_left
  · have e2 : (xk == 2) = false:=by simp;omega
    have e3 : (xk == 3) = false:=by simp;omega
    have e4 : (xk == 4) = false:=by simpa using k4
    have e5 : (xk == 5) = false:=by simpa using k5
    have e6 : (xk == 6) = false:=by simp;omega
    have e7 : (xk == 7) = false:=by simp;omega
    have hch : chK A B ⟨i,k,u⟩ = []:=by
     unfold chK chB
     rw [hX,if_neg k23,if_neg k4,if_neg k5,if_neg (by simpa using k67)]
    rw [hch] at hR
    rw [hsm k67] at hR hw1 hget
    simp only [qt1] at hR
    obtain ⟨g1,g2,g3⟩:=hget _ (ExB.refl _) hw1.l1
    simp only [qp9,hlb k67,hfl k67,hX] at hR
    rw [vi3 g3] at hR
    subst hR
    simp only [qg6] at g1 g2
    have hp1:=hput (ns ++ [n0]) [] []
    simp only [zi] at hp1
    simp only [qg6]
    · repeat' (first|(with_reducible apply zz1)|((with_reducible apply zz2);rfl;intro K' hK';simp only [WD,simprocAttr,e2,e3,e4,e5,e6,e7];(repeat (constructor;focus (clear hK';intros;simp_all;done)));(try (apply hK';clear hK' K')))|((with_reducible apply zz3);rfl;all_goals (intro h;try exact absurd h (by decide))))
      refine qj4 32 3 33 1 rfl rfl rfl (by decide) ?_
      simp only [WD,simprocAttr]
      refine qj4 32 2 34 1 rfl rfl rfl (by decide) ?_
      simp only [WD,simprocAttr]
      refine ql3 [33,34] h0 (by simp only [zq,UF,WD,simprocAttr]) ?_
      simp only [WD,simprocAttr,UF]
      (with_reducible refine qa6 ?_ ?_ ?_ (⟨⟨[],[]⟩,[],[],[],[]⟩) _ rfl (fun K' hK' gops fin hgops hfin=>?_)
       · kernel_rfl
       · rfl
       · rfl
       repeat' first
        | (refine qa9 rfl trivial (by simp only [WD,simprocAttr,UX,UA];rfl) (by simp only [za,zb];rfl) (by simp only [zn2];rfl) ?_)
        | (refine qa8 rfl rfl trivial (by simp only [WD,simprocAttr,UX,UA,hb0,g1,g2,hp1,ze,zh,zi,zu ];rfl) ?_ (by simp only [WD,simprocAttr,UX,UA];rfl) (by simp only [WD,simprocAttr,UX,UA];rfl) (by simp only [za,zb];rfl) (by simp only [zn2];rfl) ?_;focus (first | trivial | ((repeat' apply zf) <;> first | trivial | assumption | (clear hK' hfin hgops;intros;simp_all;done))))
       (refine qb5 (by subst hfin;kernel_rfl) ?_)
       clear hfin hgops fin gops
       (try (apply hK';clear hK' K')))
      repeat' (first|(with_reducible apply zz1)|((with_reducible apply zz2);rfl;intro K' hK';simp only [WD,simprocAttr];(repeat (constructor;focus (clear hK';intros;simp_all;done)));(try (apply hK';clear hK' K')))|((with_reducible apply zz3);rfl;all_goals (intro h;try exact absurd h (by decide))))
      simp only [qf8,qd5,qa2,qd6,US,WD,simprocAttr,h0]
  have e2 : (xk == 2) = false:=by simp;omega
  have e3 : (xk == 3) = false:=by simp;omega
  have e4 : (xk == 4) = false:=by simpa using k4
  have e5 : (xk == 5) = false:=by simpa using k5
  have e67 : (xk == 6) = false → (xk == 7) = true:=fun h=>by
   have : xk ≠ 6:=by simpa using h
   simpa using k67.resolve_left this
  have hcb : chB (nA A B ⟨i,k,u⟩) = true:=by rw [hX];exact qo5.2 k67
  have hch : chK A B ⟨i,k,u⟩ = (lbK A B ⟨i,k,u⟩).map fun l=>nxK A B ⟨i,k,u⟩ (ixY A i l) (ixY B k l) u:=by
   unfold chK
   rw [if_neg (by rw [hX];exact k23),if_neg (by rw [hX];exact k4),if_neg (by rw [hX];exact k5),if_pos hcb]
  have hlq:=lab_eq hcb
  rw [hX,hY] at hlq
  have hsv : smK A B ⟨i,k,u⟩ = (ql9 ⟨i,k,u⟩ && ((xk == 7) != (u == 1))):=by
   unfold smK
   rw [hcb,hX,Bool.true_and]
   rfl
  have hbk : ql9 ⟨i,k,u⟩ = ((i != -1) && (k != -1)):=by
   unfold ql9
   simp only [bne,Int.reduceNeg]
   by_cases c1 : i = -1 <;> by_cases c2 : k = -1 <;> simp [c1,c2]
  have hfq : flK A B ⟨i,k,u⟩ = (decide ((lbK A B ⟨i,k,u⟩).length = 0) || decide (6 < (lbK A B ⟨i,k,u⟩).length)):=by unfold flK;rw [hcb,Bool.true_and]
  have hls6 : xls.length ≤ 6:=by
   by_cases c : i = -1
   · rw [nA_k c] at hX
     have:=(HB.ok _ (qd0 (hk0.resolve_left fun e=>hne ⟨c,e⟩).1 (hk0.resolve_left fun e=>hne ⟨c,e⟩).2)).ok.ls
     simp only at hX
     rw [hX] at this
     exact this
   · have:=(HA.ok _ (qd0 (hi0.resolve_left c).1 (hi0.resolve_left c).2)).ok.ls
     rw [hni c] at this
     exact this
  have hyl6 : yls.length ≤ 6:=by
   unfold nY at hY
   split at hY
   · rename_i hbo
     have c:=(qj3.1 hbo).2
     have:=(HB.ok _ (qd0 (hk0.resolve_left c).1 (hk0.resolve_left c).2)).ok.ls
     unfold nB at hY
     simp only at hY
     rw [hY] at this
     exact this
   · cases hY
     simp
  have hl12 : (lbK A B ⟨i,k,u⟩).length ≤ 12:=by
   rw [hlq]
   unfold labP
   split
   · split
     · unfold vz1
       have:=List.length_filter_le (fun s=>inL yls s) xls
       simp only at *
       omega
     · unfold ym6
       have h1:=vk9 (qm2 (xls ++ yls))
       rw [qm1,zm] at h1
       simp only
       omega
   · simp only;omega
  have hlabs:=xs9 Γ ⟨xk,xso,xls,xto⟩ ⟨yk,yso,yls,yto⟩ (ql9 ⟨i,k,u⟩) (smK A B ⟨i,k,u⟩) hls6 hyl6
  simp only at hlabs hlq
  rw [← hlq] at hlabs
  simp only [Nd.d] at hlabs
  rw [hch] at hR hchk
  simp only [qp9,hfq,hX] at hR
  have hsm1 : (ks.length : Int) < ((sm ++ [false]).length : Int):=by simp;omega
  have hsm2 : ((sm ++ [false]).map bD).getD ks.length default = bD false:=by simp [zw,l2]
  have hsm3 : ∀ v : Bool,((sm ++ [false]).map bD).set ks.length (bD v) = (sm ++ [v]).map bD:=fun v=>by simp [zb1,l2]
  have hsm4 : ∀ v : Bool,((sm ++ [v]).map bD).getD ks.length default = bD v:=fun v=>by simp [zw,l2]
  have hsm5 : ∀ v : Bool,(ks.length : Int) < ((sm ++ [v]).length : Int):=fun v=>by simp;omega
  -- the labels
  have hlix : ∀ l : ByteArray,DFn Tryd.prog Γ 87 [.slc (A.map Nd.d),iD i,sD l] (iD (ixY A i l)):=fun l=>xr5 Γ HA i l hi0
  have hliy : ∀ l : ByteArray,DFn Tryd.prog Γ 87 [.slc (B.map Nd.d),iD k,sD l] (iD (ixY B k l)):=fun l=>xr5 Γ HB k l hk0
  have hbo2 : ql9 ⟨i,k,u⟩ = true → (i != -1) = true ∧ (k != -1) = true:=fun h=>by rw [hbk] at h;simpa using h
  have hbo3 : ql9 ⟨i,k,u⟩ = false → (i != -1) = true → (k != -1) = false:=fun h h2=>by rw [hbk,h2] at h;simpa using h
  generalize hlbs : lbK A B ⟨i,k,u⟩ = lbs at *
  generalize hsmv : smK A B ⟨i,k,u⟩ = smv at *
  have hsv2 : ql9 ⟨i,k,u⟩ = true → ((xk == 7) != (u == 1)) = smv:=fun h=>by rw [hsv,h,Bool.true_and]
  have hsv3 : ql9 ⟨i,k,u⟩ = false → smv = false:=fun h=>by rw [hsv,h,Bool.false_and]
  generalize hbov : ql9 ⟨i,k,u⟩ = bov at *
  clear hsv hbk hlq
  repeat' (first|(with_reducible first|apply zw0|refine qz4 ?_|refine qr8 ?_|refine vw8 ?_|refine vh7 ?_|refine qz2 ?_|apply zw6|refine xo6 ?_|refine xr0 ?_|refine xr8 ?_|refine xp5 ?_|refine vt9 ?_|refine vw1 ?_|refine vu3 ?_)|((with_reducible refine vx4 ?_ ?_);rfl)|((with_reducible refine qr3 ?_ ?_ (fun K' hK'=>?_));rfl;rfl;simp only [WD,simprocAttr,e2,e3,e4,e5];(repeat (constructor;focus (clear hK';intros;simp_all;done)));(try (apply hK';clear hK' K')))|((with_reducible refine qn6 ?_ ?_);rfl;first | refine ⟨_,rfl,fun h=>?_,fun h=>absurd h (by decide)⟩ | refine ⟨_,rfl,fun h=>absurd h (by decide),fun h=>?_⟩ | fail))
  -- TRACE
  refine qh2 [(3,.d (iD u)),(4,.ref 5 0),(5,.ref 6 0),(6,.ref 7 0),(12,.d (iD ks.length)),(13,.ref 30 0),(14,.ref 31 0),(15,.ref 32 0),(16,.clo 85 [.ref 6 0,.ref 5 0,.ref 7 0,.ref 32 0]),(158,.d (bD true))] [(0,.cells [.d (.slc (A.map Nd.d)),.d (.slc (B.map Nd.d)),.mp 1,.own 2,.own 3,.own 4]),(1,.mp (mK (ks ++ [⟨i,k,u⟩]))),(2,.row 4 ((ns ++ [n0]).map Nd.d)),(3,.row 1 ((sm ++ [false]).map bD)),(4,.row 1 ((fl ++ [false]).map bD)),(5,.cells [.ref 0 0]),(6,.cells [.d (iD i)]),(7,.cells [.d (iD k)]),(30,.cells [.d (iD xk),.d (iD xso),.d (.slc (xls.map sD)),.d (.slc (xto.map iD))]),(31,.cells [.d (iD yk),.d (iD yso),.d (.slc (yls.map sD)),.d (.slc (yto.map iD))]),(32,.cells [.d (iD xk),.d (iD xso),.nil,.nil])] ?_ ?_
  · cases e6 : (xk == 6) with
    | true =>
     repeat' (first|(with_reducible apply zz1)|((with_reducible apply zz2);rfl;intro K' hK';simp only [WD,simprocAttr,e6];(repeat (constructor;focus (clear hK';intros;simp_all;done)));(try (apply hK';clear hK' K')))|((with_reducible apply zz3);rfl;all_goals (intro h;try exact absurd h (by decide))))
     refine ⟨rfl,?_⟩
     refine qa3 h0 ?_ ?_ ?_ <;> simp only [US,WD,simprocAttr]
    | false =>
     repeat' (first|(with_reducible apply zz1)|((with_reducible apply zz2);rfl;intro K' hK';simp only [WD,simprocAttr,e6,e67 e6];(repeat (constructor;focus (clear hK';intros;simp_all;done)));(try (apply hK';clear hK' K')))|((with_reducible apply zz3);rfl;all_goals (intro h;try exact absurd h (by decide))))
     refine ⟨rfl,?_⟩
     refine qa3 h0 ?_ ?_ ?_ <;> simp only [US,WD,simprocAttr]
  refine qn6 ?_ ?_
  · rfl
  refine ⟨_,rfl,fun h=>?_,fun h=>absurd h (by decide)⟩
  clear h
  refine zw0 ?_
  refine qh2 [(3,.d (iD u)),(4,.ref 5 0),(5,.ref 6 0),(6,.ref 7 0),(12,.d (iD ks.length)),(13,.ref 30 0),(14,.ref 31 0),(15,.ref 32 0),(16,.clo 85 [.ref 6 0,.ref 5 0,.ref 7 0,.ref 32 0]),(17,.d (bD bov))] [(0,.cells [.d (.slc (A.map Nd.d)),.d (.slc (B.map Nd.d)),.mp 1,.own 2,.own 3,.own 4]),(1,.mp (mK (ks ++ [⟨i,k,u⟩]))),(2,.row 4 ((ns ++ [n0]).map Nd.d)),(3,.row 1 ((sm ++ [false]).map bD)),(4,.row 1 ((fl ++ [false]).map bD)),(5,.cells [.ref 0 0]),(6,.cells [.d (iD i)]),(7,.cells [.d (iD k)]),(30,.cells [.d (iD xk),.d (iD xso),.d (.slc (xls.map sD)),.d (.slc (xto.map iD))]),(31,.cells [.d (iD yk),.d (iD yso),.d (.slc (yls.map sD)),.d (.slc (yto.map iD))]),(32,.cells [.d (iD xk),.d (iD xso),.nil,.nil])] ?_ ?_
  · cases bov with
    | true =>
     obtain ⟨n1,n2⟩:=hbo2 rfl
     repeat' (first|(with_reducible apply zz1)|((with_reducible apply zz2);rfl;intro K' hK';simp only [WD,simprocAttr,n1,n2];(repeat (constructor;focus (clear hK';intros;simp_all;done)));(try (apply hK';clear hK' K')))|((with_reducible apply zz3);rfl;all_goals (intro h;try exact absurd h (by decide))))
     refine ⟨rfl,?_⟩
     refine qa3 h0 ?_ ?_ ?_ <;> simp only [US,WD,simprocAttr]
    | false =>
     cases n1 : (i != -1) with
     | true =>
      have n2:=hbo3 rfl n1
      repeat' (first|(with_reducible apply zz1)|((with_reducible apply zz2);rfl;intro K' hK';simp only [WD,simprocAttr,n1,n2];(repeat (constructor;focus (clear hK';intros;simp_all;done)));(try (apply hK';clear hK' K')))|((with_reducible apply zz3);rfl;all_goals (intro h;try exact absurd h (by decide))))
      refine ⟨rfl,?_⟩
      refine qa3 h0 ?_ ?_ ?_ <;> simp only [US,WD,simprocAttr]
     | false =>
      repeat' (first|(with_reducible apply zz1)|((with_reducible apply zz2);rfl;intro K' hK';simp only [WD,simprocAttr,n1];(repeat (constructor;focus (clear hK';intros;simp_all;done)));(try (apply hK';clear hK' K')))|((with_reducible apply zz3);rfl;all_goals (intro h;try exact absurd h (by decide))))
      refine ⟨rfl,?_⟩
      refine qa3 h0 ?_ ?_ ?_ <;> simp only [US,WD,simprocAttr]
  refine zw0 ?_
  refine qh2 [(3,.d (iD u)),(4,.ref 5 0),(5,.ref 6 0),(6,.ref 7 0),(12,.d (iD ks.length)),(13,.ref 30 0),(14,.ref 31 0),(15,.ref 32 0),(16,.clo 85 [.ref 6 0,.ref 5 0,.ref 7 0,.ref 32 0]),(17,.d (bD bov))] [(0,.cells [.d (.slc (A.map Nd.d)),.d (.slc (B.map Nd.d)),.mp 1,.own 2,.own 3,.own 4]),(1,.mp (mK (ks ++ [⟨i,k,u⟩]))),(2,.row 4 ((ns ++ [n0]).map Nd.d)),(3,.row 1 ((sm ++ [smv]).map bD)),(4,.row 1 ((fl ++ [false]).map bD)),(5,.cells [.ref 0 0]),(6,.cells [.d (iD i)]),(7,.cells [.d (iD k)]),(30,.cells [.d (iD xk),.d (iD xso),.d (.slc (xls.map sD)),.d (.slc (xto.map iD))]),(31,.cells [.d (iD yk),.d (iD yso),.d (.slc (yls.map sD)),.d (.slc (yto.map iD))]),(32,.cells [.d (iD xk),.d (iD xso),.nil,.nil])] ?_ ?_
  · cases bov with
    | true =>
     have n3 : (!((xk == 7) == (u == 1))) = smv:=by have:=hsv2 rfl;simpa only [bne] using this
     (with_reducible refine qa6 ?_ ?_ ?_ (⟨⟨[],[]⟩,[],[],[],[]⟩) _ rfl (fun K' hK' gops fin hgops hfin=>?_)
      · kernel_rfl
      · rfl
      · rfl
      repeat' first
       | (refine qa9 rfl trivial (by simp only [WD,simprocAttr,UX,UA];rfl) (by simp only [za,zb];rfl) (by simp only [zn2];rfl) ?_)
       | (refine qa8 rfl rfl trivial (by simp only [WD,simprocAttr,UX,UA,hb0,hsm1,hsm2,hsm3,ze,zh,n3 ];rfl) ?_ (by simp only [WD,simprocAttr,UX,UA];rfl) (by simp only [WD,simprocAttr,UX,UA];rfl) (by simp only [za,zb];rfl) (by simp only [zn2];rfl) ?_;focus (first | trivial | ((repeat' apply zf) <;> first | trivial | assumption | (clear hK' hfin hgops;intros;simp_all;done))))
       | (refine qi7 (g:=true) rfl rfl trivial (by rw [hgops];rfl) (by simp only [WD,simprocAttr,UX,UA,hb0,hsm1,hsm2,hsm3,ze,zh,n3 ];rfl) ?_ (by simp only [WD,simprocAttr,UX,UA];rfl) (by simp only [WD,simprocAttr,UX,UA];rfl) (by simp only [za,zb];rfl) (by simp only [zn2];rfl) ?_;focus (first | trivial | ((repeat' apply zf) <;> first | trivial | assumption | (clear hK' hfin hgops;intros;simp_all;done))))
       | (refine qi7 (g:=false) rfl rfl trivial (by rw [hgops];rfl) (by simp only [WD,simprocAttr,UX,UA,hb0,hsm1,hsm2,hsm3,ze,zh,n3 ];rfl) ?_ (by simp only [WD,simprocAttr,UX,UA];rfl) (by simp only [WD,simprocAttr,UX,UA];rfl) (by simp only [za,zb];rfl) (by simp only [zn2];rfl) ?_;focus (first | trivial | ((repeat' apply zf) <;> first | trivial | assumption | (clear hK' hfin hgops;intros;simp_all;done))))
      (refine qb5 (by subst hfin;kernel_rfl) ?_)
      clear hfin hgops fin gops
      (try (apply hK';clear hK' K')))
     refine ⟨rfl,?_⟩
     refine qa3 h0 ?_ ?_ ?_ <;> simp only [US,WD,simprocAttr]
    | false =>
     have n3:=hsv3 rfl
     subst n3
     (with_reducible refine qa6 ?_ ?_ ?_ (⟨⟨[],[]⟩,[],[],[],[]⟩) _ rfl (fun K' hK' gops fin hgops hfin=>?_)
      · kernel_rfl
      · rfl
      · rfl
      repeat' first
       | (refine qa9 rfl trivial (by simp only [WD,simprocAttr,UX,UA];rfl) (by simp only [za,zb];rfl) (by simp only [zn2];rfl) ?_)
       | (refine qa8 rfl rfl trivial (by simp only [WD,simprocAttr,UX,UA,hb0,hsm1,hsm2,hsm3,ze,zh ];rfl) ?_ (by simp only [WD,simprocAttr,UX,UA];rfl) (by simp only [WD,simprocAttr,UX,UA];rfl) (by simp only [za,zb];rfl) (by simp only [zn2];rfl) ?_;focus (first | trivial | ((repeat' apply zf) <;> first | trivial | assumption | (clear hK' hfin hgops;intros;simp_all;done))))
       | (refine qi7 (g:=true) rfl rfl trivial (by rw [hgops];rfl) (by simp only [WD,simprocAttr,UX,UA,hb0,hsm1,hsm2,hsm3,ze,zh ];rfl) ?_ (by simp only [WD,simprocAttr,UX,UA];rfl) (by simp only [WD,simprocAttr,UX,UA];rfl) (by simp only [za,zb];rfl) (by simp only [zn2];rfl) ?_;focus (first | trivial | ((repeat' apply zf) <;> first | trivial | assumption | (clear hK' hfin hgops;intros;simp_all;done))))
       | (refine qi7 (g:=false) rfl rfl trivial (by rw [hgops];rfl) (by simp only [WD,simprocAttr,UX,UA,hb0,hsm1,hsm2,hsm3,ze,zh ];rfl) ?_ (by simp only [WD,simprocAttr,UX,UA];rfl) (by simp only [WD,simprocAttr,UX,UA];rfl) (by simp only [za,zb];rfl) (by simp only [zn2];rfl) ?_;focus (first | trivial | ((repeat' apply zf) <;> first | trivial | assumption | (clear hK' hfin hgops;intros;simp_all;done))))
      (refine qb5 (by subst hfin;kernel_rfl) ?_)
      clear hfin hgops fin gops
      (try (apply hK';clear hK' K')))
     refine ⟨rfl,?_⟩
     refine qa3 h0 ?_ ?_ ?_ <;> simp only [US,WD,simprocAttr]
  refine zw0 ?_
  (with_reducible refine qa6 ?_ ?_ ?_ (⟨⟨[(10,.slc (lbs.map sD))],[]⟩,[],[],[],[]⟩) _ rfl (fun K' hK' gops fin hgops hfin=>?_)
   · kernel_rfl
   · rfl
   · rfl
   repeat' first
    | (refine qa9 rfl trivial (by simp only [WD,simprocAttr,UX,UA];rfl) (by simp only [za,zb];rfl) (by simp only [zn2];rfl) ?_)
    | (refine qa8 rfl rfl trivial (by simp only [WD,simprocAttr,UX,UA,hlabs,hb0,hsm4,hsm5,ze,zh ];rfl) ?_ (by simp only [WD,simprocAttr,UX,UA];rfl) (by simp only [WD,simprocAttr,UX,UA];rfl) (by simp only [za,zb];rfl) (by simp only [zn2];rfl) ?_;focus (first | trivial | ((repeat' apply zf) <;> first | trivial | assumption | (clear hK' hfin hgops;intros;simp_all;done))))
   (refine qb5 (by subst hfin;kernel_rfl) ?_)
   clear hfin hgops fin gops
   (try (apply hK';clear hK' K')))
  repeat' (first|(with_reducible apply zz1)|((with_reducible apply zz2);rfl;intro K' hK';simp only [WD,simprocAttr,ze];(repeat (constructor;focus (clear hK';intros;simp_all;done)));(try (apply hK';clear hK' K')))|((with_reducible apply zz3);rfl;all_goals (intro h;try exact absurd h (by decide))))
  refine qj4 32 3 33 1 rfl rfl rfl (by decide) ?_
  simp only [WD,simprocAttr]
  -- TRACE
  refine qd3 (α := Nat × List Int × Bd) (fun q=>[(3,.d (iD u)),(4,.ref 5 0),(5,.ref 6 0),(6,.ref 7 0),(12,.d (iD ks.length)),(15,.ref 32 0),(16,.clo 85 [.ref 6 0,.ref 5 0,.ref 7 0,.ref 32 0]),(195,.d (.slc (lbs.map sD))),(196,.d (iD lbs.length)),(197,.d (iD q.1))]) (fun q=>[(0,.cells [.d (.slc (A.map Nd.d)),.d (.slc (B.map Nd.d)),.mp 1,.own 2,.own 3,.own 4]),(1,.mp (mK q.2.2.ks)),(2,.row 4 (q.2.2.ns.map Nd.d)),(3,.row 1 (q.2.2.sm.map bD)),(4,.row 1 (q.2.2.fl.map bD)),(5,.cells [.ref 0 0]),(6,.cells [.d (iD i)]),(7,.cells [.d (iD k)]),(32,.cells [.d (iD xk),.d (iD xso),.d (.slc (lbs.map sD)),.own 33]),(33,.row 1 (q.2.1.map iD))])
   (fun q=>q.1 ≤ lbs.length ∧ q.2.1.length = q.1 ∧ WF A.length B.length q.2.2 ∧ ExB (qg6 ⟨ks,ns,sm,fl⟩ ⟨i,k,u⟩ smv false) q.2.2 ∧ ((ks.length : Int),(⟨(qt1 (qy8 A B f) ((lbs.drop q.1).map fun l=>nxK A B ⟨i,k,u⟩ (ixY A i l) (ixY B k l) u) q.2.2).2.ks,(qt1 (qy8 A B f) ((lbs.drop q.1).map fun l=>nxK A B ⟨i,k,u⟩ (ixY A i l) (ixY B k l) u) q.2.2).2.ns.set ks.length ⟨xk,xso,lbs,q.2.1 ++ (qt1 (qy8 A B f) ((lbs.drop q.1).map fun l=>nxK A B ⟨i,k,u⟩ (ixY A i l) (ixY B k l) u) q.2.2).1⟩,(qt1 (qy8 A B f) ((lbs.drop q.1).map fun l=>nxK A B ⟨i,k,u⟩ (ixY A i l) (ixY B k l) u) q.2.2).2.sm,(qt1 (qy8 A B f) ((lbs.drop q.1).map fun l=>nxK A B ⟨i,k,u⟩ (ixY A i l) (ixY B k l) u) q.2.2).2.fl.set ks.length (decide (lbs.length = 0) || decide (6 < lbs.length))⟩ : Bd)) = R) (fun q=>lbs.length - q.1)
   (0,[],qg6 ⟨ks,ns,sm,fl⟩ ⟨i,k,u⟩ smv false) ⟨Nat.zero_le _,rfl,hw1,ExB.refl _,hR⟩ (by simp only [qg6];refine qa3 h0 ?_ ?_ ?_ <;> simp only [US,WD,simprocAttr,zi]) (fun q hq=>?_)
  -- TRACE
  obtain ⟨j,acc,st⟩:=q
  obtain ⟨hj,hacc,hws,hex,hRj⟩:=hq
  simp only at hj hacc hws hex hRj
  have hj0 : (0 : Int) ≤ (j : Int):=by omega
  by_cases hjl : j < lbs.length
  · obtain ⟨l,hl⟩ : ∃ l,lbs[j]? = some l:=⟨lbs[j],by simp [hjl]⟩
    have hlg : (lbs.map sD).getD j default = sD l:=by simp [zw,hl]
    have hj1 : (j : Int) < (lbs.length : Int):=by omega
    have hw2 : IntKind.i64.wrap ((j : Int) + 1) = ((j + 1 : Nat) : Int):=by rw [qd7 (by omega) (by omega)];omega
    have hd : lbs.drop j = l :: lbs.drop (j + 1):=by
     obtain ⟨h1,h2⟩:=List.getElem?_eq_some_iff.1 hl
     rw [List.drop_eq_getElem_cons h1,h2]
    rw [hd] at hRj
    simp only [zu,qt1] at hRj
    have hcok:=hchk (nxK A B ⟨i,k,u⟩ (ixY A i l) (ixY B k l) u) (List.mem_map.2 ⟨l,List.mem_of_getElem? hl,rfl⟩)
    have hle:=hex.len
    simp only [qg6,zm,zn,zo] at hle
    have hok:=vg2 (fun q h hb=>xf9 HA HB q h hb) f _ _ hws hcok (by simp only at hf;omega)
    have hc:=next_fn Γ HA HB f ih i k (ixY A i l) (ixY B k l) u st xk xso lbs acc hws hi0 hk0
     (yg0 fun h=>((hsA h).lab (by rw [hni h];exact k67)).1)
     (yg0 fun h=>((hsB h).lab (by rw [hnk h];exact k67)).1)
     hcok (by simp only at hf;omega) (by omega)
    simp only [nxK] at hRj hok
    generalize qy8 A B f ⟨goK A i (ixY A i l),goK B k (ixY B k l),u⟩ st = r1 at hc hRj hok
    obtain ⟨m1,b1⟩:=r1
    simp only at hRj hok
    simp only [nxSt,bdC] at hc
    have hx1:=hlix l
    have hx2:=hliy l
    repeat' (first|(with_reducible apply zz1)|((with_reducible apply zz2);rfl;intro K' hK';simp only [WD,simprocAttr,hlg,hj0,hj1,ze,zh];(repeat (constructor;focus (clear hK';intros;simp_all;done)));(try (apply hK';clear hK' K')))|((with_reducible apply zz3);rfl;all_goals (intro h;try exact absurd h (by decide))))
    -- TRACE
    (with_reducible refine qu2 ?_ ?_ ?_ (⟨⟨[(7,iD (ixY A i l)),(14,iD (ixY B k l))],[]⟩,[],[],[],[]⟩) _ rfl 16 [16] ([true,true,true,true,true,true,true,true,true,true,true,true,true,true,true,true,false]).toArray (by decide) ?_ (by decide) (by decide) ?_ (fun K' hK' gops fin hgops hfin=>?_)
     · kernel_rfl
     · rfl
     · rfl
     · kernel_rfl
     · kernel_rfl
     repeat' first
      | (refine qa9 rfl trivial (by simp only [WD,simprocAttr,UX,UA];rfl) (by simp only [za,zb];rfl) (by simp only [zn2];rfl) ?_)
      | (refine qa8 rfl rfl trivial (by simp only [WD,simprocAttr,UX,UA,hx1,hx2];rfl) ?_ (by simp only [WD,simprocAttr,UX,UA];rfl) (by simp only [WD,simprocAttr,UX,UA];rfl) (by simp only [za,zb];rfl) (by simp only [zn2];rfl) ?_;focus (first | trivial | ((repeat' apply zf) <;> first | trivial | assumption | (clear hK' hfin hgops;intros;simp_all;done))))
     (refine qb5 (by subst hfin;kernel_rfl) ?_)
     subst hgops
     clear hfin fin)
    refine qa5 (rs:=[16]) (by kernel_rfl) (by simp) (fun i hi=>?_)
    simp only [zy,za1,or_false] at hi
    obtain rfl:=hi
    refine ⟨_,rfl,rfl,?_⟩
    -- TRACE
    refine yf9 rfl rfl rfl rfl (by simp only [UA,WD,simprocAttr]) (by simp only [xa4,xb6,hin,hins,UA,WD,simprocAttr,zq]) (by simp only [vw5,UA,WD,simprocAttr]) (by simp only [vy7,hin,hins,UA,WD,simprocAttr,zq]) (by simp only [qn9,newS,lk,nbeq,Nat.reduceBEq,cond_false,cond_true,Option.isNone_none,and_self,true_and,and_true,UA,WD,simprocAttr]) (hc) ?_
    simp only [UM,WD,simprocAttr]
    refine qe3 (by kernel_rfl) ?_
    refine hK' _ _ ?_
    clear hK' K'
    repeat' (first|(with_reducible apply zz1)|((with_reducible apply zz2);rfl;intro K' hK';simp only [WD,simprocAttr,hw2];(repeat (constructor;focus (clear hK';intros;simp_all;done)));(try (apply hK';clear hK' K')))|((with_reducible apply zz3);rfl;all_goals (intro h;try exact absurd h (by decide))))
    refine ⟨(j + 1,acc ++ [m1],b1),⟨(by show j + 1 ≤ lbs.length;omega),by simp [hacc],hok.wf,hex.trans hok.ex,?_⟩,(by show lbs.length - (j + 1) < lbs.length - j;omega),by refine qa3 h0 ?_ ?_ ?_ <;> simp only [US,WD,simprocAttr]⟩
    rw [← hRj]
    simp only [List.append_assoc,List.singleton_append]
    rfl
  · have hj1 : ¬ (j : Int) < (lbs.length : Int):=by omega
    rw [show lbs.drop j = [] from List.drop_eq_nil_of_le (by omega)] at hRj
    simp only [zi,qt1,List.append_nil] at hRj
    obtain ⟨g1,g2,g3⟩:=hget st hex hws.l1
    have hp1:=hput st.ns lbs acc
    have f1 : (ks.length : Int) < (st.fl.length : Int):=by
     have:=(List.getElem?_eq_some_iff.1 g3).1
     omega
    have f2 : (st.fl.map bD).getD ks.length default = bD false:=by simp [zw,g3]
    have f3 : ∀ v : Bool,(st.fl.map bD).set ks.length (bD v) = (st.fl.set ks.length v).map bD:=fun v=>by rw [List.map_set]
    by_cases c0 : lbs.length = 0
    · have hv : (decide (lbs.length = 0) || decide (6 < lbs.length)) = true:=by simp [c0]
      have e0 : ((lbs.length : Int) == 0) = true:=by simp [c0]
      rw [hv] at hRj
      subst hRj
      repeat' (first|(with_reducible apply zz1)|((with_reducible apply zz2);rfl;intro K' hK';simp only [WD,simprocAttr,hj1];(repeat (constructor;focus (clear hK';intros;simp_all;done)));(try (apply hK';clear hK' K')))|((with_reducible apply zz3);rfl;all_goals (intro h;try exact absurd h (by decide))))
      (with_reducible refine qa6 ?_ ?_ ?_ (⟨⟨[],[]⟩,[],[],[],[]⟩) _ rfl (fun K' hK' gops fin hgops hfin=>?_)
       · kernel_rfl
       · rfl
       · rfl
       repeat' first
        | (refine qa9 rfl trivial (by simp only [WD,simprocAttr,UX,UA];rfl) (by simp only [za,zb];rfl) (by simp only [zn2];rfl) ?_)
        | (refine qa8 rfl rfl trivial (by simp only [WD,simprocAttr,UX,UA,e0,f1,f2,f3,hb0,ze,zh ];rfl) ?_ (by simp only [WD,simprocAttr,UX,UA];rfl) (by simp only [WD,simprocAttr,UX,UA];rfl) (by simp only [za,zb];rfl) (by simp only [zn2];rfl) ?_;focus (first | trivial | ((repeat' apply zf) <;> first | trivial | assumption | (clear hK' hfin hgops;intros;simp_all;done))))
        | (refine qi7 (g:=true) rfl rfl trivial (by rw [hgops];rfl) (by simp only [WD,simprocAttr,UX,UA,e0,f1,f2,f3,hb0,ze,zh ];rfl) ?_ (by simp only [WD,simprocAttr,UX,UA];rfl) (by simp only [WD,simprocAttr,UX,UA];rfl) (by simp only [za,zb];rfl) (by simp only [zn2];rfl) ?_;focus (first | trivial | ((repeat' apply zf) <;> first | trivial | assumption | (clear hK' hfin hgops;intros;simp_all;done))))
        | (refine qi7 (g:=false) rfl rfl trivial (by rw [hgops];rfl) (by simp only [WD,simprocAttr,UX,UA,e0,f1,f2,f3,hb0,ze,zh ];rfl) ?_ (by simp only [WD,simprocAttr,UX,UA];rfl) (by simp only [WD,simprocAttr,UX,UA];rfl) (by simp only [za,zb];rfl) (by simp only [zn2];rfl) ?_;focus (first | trivial | ((repeat' apply zf) <;> first | trivial | assumption | (clear hK' hfin hgops;intros;simp_all;done))))
       (refine qb5 (by subst hfin;kernel_rfl) ?_)
       clear hfin hgops fin gops
       (try (apply hK';clear hK' K')))
      repeat' (first|(with_reducible apply zz1)|((with_reducible apply zz2);rfl;intro K' hK';simp only [WD,simprocAttr];(repeat (constructor;focus (clear hK';intros;simp_all;done)));(try (apply hK';clear hK' K')))|((with_reducible apply zz3);rfl;all_goals (intro h;try exact absurd h (by decide))))
      refine ql3 [33] h0 (by simp only [zq,UF,WD,simprocAttr]) ?_
      simp only [WD,simprocAttr,UF]
      (with_reducible refine qa6 ?_ ?_ ?_ (⟨⟨[],[]⟩,[],[],[],[]⟩) _ rfl (fun K' hK' gops fin hgops hfin=>?_)
       · kernel_rfl
       · rfl
       · rfl
       repeat' first
        | (refine qa9 rfl trivial (by simp only [WD,simprocAttr,UX,UA];rfl) (by simp only [za,zb];rfl) (by simp only [zn2];rfl) ?_)
        | (refine qa8 rfl rfl trivial (by simp only [WD,simprocAttr,UX,UA,hb0,g1,g2,hp1,ze,zh ];rfl) ?_ (by simp only [WD,simprocAttr,UX,UA];rfl) (by simp only [WD,simprocAttr,UX,UA];rfl) (by simp only [za,zb];rfl) (by simp only [zn2];rfl) ?_;focus (first | trivial | ((repeat' apply zf) <;> first | trivial | assumption | (clear hK' hfin hgops;intros;simp_all;done))))
       (refine qb5 (by subst hfin;kernel_rfl) ?_)
       clear hfin hgops fin gops
       (try (apply hK';clear hK' K')))
      repeat' (first|(with_reducible apply zz1)|((with_reducible apply zz2);rfl;intro K' hK';simp only [WD,simprocAttr];(repeat (constructor;focus (clear hK';intros;simp_all;done)));(try (apply hK';clear hK' K')))|((with_reducible apply zz3);rfl;all_goals (intro h;try exact absurd h (by decide))))
      simp only [qf8,qd5,qa2,qd6,US,WD,simprocAttr,h0]
    have e0 : ((lbs.length : Int) == 0) = false:=by
     have : (lbs.length : Int) ≠ 0:=by omega
     simpa using this
    by_cases c6 : 6 < lbs.length
    · have hv : (decide (lbs.length = 0) || decide (6 < lbs.length)) = true:=by simp [c6]
      have h6 : (6 : Int) < (lbs.length : Int):=by omega
      rw [hv] at hRj
      subst hRj
      repeat' (first|(with_reducible apply zz1)|((with_reducible apply zz2);rfl;intro K' hK';simp only [WD,simprocAttr,hj1];(repeat (constructor;focus (clear hK';intros;simp_all;done)));(try (apply hK';clear hK' K')))|((with_reducible apply zz3);rfl;all_goals (intro h;try exact absurd h (by decide))))
      (with_reducible refine qa6 ?_ ?_ ?_ (⟨⟨[],[]⟩,[],[],[],[]⟩) _ rfl (fun K' hK' gops fin hgops hfin=>?_)
       · kernel_rfl
       · rfl
       · rfl
       repeat' first
        | (refine qa9 rfl trivial (by simp only [WD,simprocAttr,UX,UA];rfl) (by simp only [za,zb];rfl) (by simp only [zn2];rfl) ?_)
        | (refine qa8 rfl rfl trivial (by simp only [WD,simprocAttr,UX,UA,e0,h6,f1,f2,f3,hb0,ze,zh ];rfl) ?_ (by simp only [WD,simprocAttr,UX,UA];rfl) (by simp only [WD,simprocAttr,UX,UA];rfl) (by simp only [za,zb];rfl) (by simp only [zn2];rfl) ?_;focus (first | trivial | ((repeat' apply zf) <;> first | trivial | assumption | (clear hK' hfin hgops;intros;simp_all;done))))
        | (refine qi7 (g:=true) rfl rfl trivial (by rw [hgops];rfl) (by simp only [WD,simprocAttr,UX,UA,e0,h6,f1,f2,f3,hb0,ze,zh ];rfl) ?_ (by simp only [WD,simprocAttr,UX,UA];rfl) (by simp only [WD,simprocAttr,UX,UA];rfl) (by simp only [za,zb];rfl) (by simp only [zn2];rfl) ?_;focus (first | trivial | ((repeat' apply zf) <;> first | trivial | assumption | (clear hK' hfin hgops;intros;simp_all;done))))
        | (refine qi7 (g:=false) rfl rfl trivial (by rw [hgops];rfl) (by simp only [WD,simprocAttr,UX,UA,e0,h6,f1,f2,f3,hb0,ze,zh ];rfl) ?_ (by simp only [WD,simprocAttr,UX,UA];rfl) (by simp only [WD,simprocAttr,UX,UA];rfl) (by simp only [za,zb];rfl) (by simp only [zn2];rfl) ?_;focus (first | trivial | ((repeat' apply zf) <;> first | trivial | assumption | (clear hK' hfin hgops;intros;simp_all;done))))
       (refine qb5 (by subst hfin;kernel_rfl) ?_)
       clear hfin hgops fin gops
       (try (apply hK';clear hK' K')))
      repeat' (first|(with_reducible apply zz1)|((with_reducible apply zz2);rfl;intro K' hK';simp only [WD,simprocAttr];(repeat (constructor;focus (clear hK';intros;simp_all;done)));(try (apply hK';clear hK' K')))|((with_reducible apply zz3);rfl;all_goals (intro h;try exact absurd h (by decide))))
      refine ql3 [33] h0 (by simp only [zq,UF,WD,simprocAttr]) ?_
      simp only [WD,simprocAttr,UF]
      (with_reducible refine qa6 ?_ ?_ ?_ (⟨⟨[],[]⟩,[],[],[],[]⟩) _ rfl (fun K' hK' gops fin hgops hfin=>?_)
       · kernel_rfl
       · rfl
       · rfl
       repeat' first
        | (refine qa9 rfl trivial (by simp only [WD,simprocAttr,UX,UA];rfl) (by simp only [za,zb];rfl) (by simp only [zn2];rfl) ?_)
        | (refine qa8 rfl rfl trivial (by simp only [WD,simprocAttr,UX,UA,hb0,g1,g2,hp1,ze,zh ];rfl) ?_ (by simp only [WD,simprocAttr,UX,UA];rfl) (by simp only [WD,simprocAttr,UX,UA];rfl) (by simp only [za,zb];rfl) (by simp only [zn2];rfl) ?_;focus (first | trivial | ((repeat' apply zf) <;> first | trivial | assumption | (clear hK' hfin hgops;intros;simp_all;done))))
       (refine qb5 (by subst hfin;kernel_rfl) ?_)
       clear hfin hgops fin gops
       (try (apply hK';clear hK' K')))
      repeat' (first|(with_reducible apply zz1)|((with_reducible apply zz2);rfl;intro K' hK';simp only [WD,simprocAttr];(repeat (constructor;focus (clear hK';intros;simp_all;done)));(try (apply hK';clear hK' K')))|((with_reducible apply zz3);rfl;all_goals (intro h;try exact absurd h (by decide))))
      simp only [qf8,qd5,qa2,qd6,US,WD,simprocAttr,h0]
    · have hv : (decide (lbs.length = 0) || decide (6 < lbs.length)) = false:=by simp only [c0,c6,decide_false,Bool.or_self]
      have h6 : ¬ (6 : Int) < (lbs.length : Int):=by omega
      rw [hv] at hRj
      subst hRj
      repeat' (first|(with_reducible apply zz1)|((with_reducible apply zz2);rfl;intro K' hK';simp only [WD,simprocAttr,hj1];(repeat (constructor;focus (clear hK';intros;simp_all;done)));(try (apply hK';clear hK' K')))|((with_reducible apply zz3);rfl;all_goals (intro h;try exact absurd h (by decide))))
      (with_reducible refine qa6 ?_ ?_ ?_ (⟨⟨[],[]⟩,[],[],[],[]⟩) _ rfl (fun K' hK' gops fin hgops hfin=>?_)
       · kernel_rfl
       · rfl
       · rfl
       repeat' first
        | (refine qa9 rfl trivial (by simp only [WD,simprocAttr,UX,UA];rfl) (by simp only [za,zb];rfl) (by simp only [zn2];rfl) ?_)
        | (refine qa8 rfl rfl trivial (by simp only [WD,simprocAttr,UX,UA,e0,h6,f1,f2,f3,hb0,ze,zh ];rfl) ?_ (by simp only [WD,simprocAttr,UX,UA];rfl) (by simp only [WD,simprocAttr,UX,UA];rfl) (by simp only [za,zb];rfl) (by simp only [zn2];rfl) ?_;focus (first | trivial | ((repeat' apply zf) <;> first | trivial | assumption | (clear hK' hfin hgops;intros;simp_all;done))))
        | (refine qi7 (g:=true) rfl rfl trivial (by rw [hgops];rfl) (by simp only [WD,simprocAttr,UX,UA,e0,h6,f1,f2,f3,hb0,ze,zh ];rfl) ?_ (by simp only [WD,simprocAttr,UX,UA];rfl) (by simp only [WD,simprocAttr,UX,UA];rfl) (by simp only [za,zb];rfl) (by simp only [zn2];rfl) ?_;focus (first | trivial | ((repeat' apply zf) <;> first | trivial | assumption | (clear hK' hfin hgops;intros;simp_all;done))))
        | (refine qi7 (g:=false) rfl rfl trivial (by rw [hgops];rfl) (by simp only [WD,simprocAttr,UX,UA,e0,h6,f1,f2,f3,hb0,ze,zh ];rfl) ?_ (by simp only [WD,simprocAttr,UX,UA];rfl) (by simp only [WD,simprocAttr,UX,UA];rfl) (by simp only [za,zb];rfl) (by simp only [zn2];rfl) ?_;focus (first | trivial | ((repeat' apply zf) <;> first | trivial | assumption | (clear hK' hfin hgops;intros;simp_all;done))))
       (refine qb5 (by subst hfin;kernel_rfl) ?_)
       clear hfin hgops fin gops
       (try (apply hK';clear hK' K')))
      repeat' (first|(with_reducible apply zz1)|((with_reducible apply zz2);rfl;intro K' hK';simp only [WD,simprocAttr];(repeat (constructor;focus (clear hK';intros;simp_all;done)));(try (apply hK';clear hK' K')))|((with_reducible apply zz3);rfl;all_goals (intro h;try exact absurd h (by decide))))
      refine ql3 [33] h0 (by simp only [zq,UF,WD,simprocAttr]) ?_
      simp only [WD,simprocAttr,UF]
      (with_reducible refine qa6 ?_ ?_ ?_ (⟨⟨[],[]⟩,[],[],[],[]⟩) _ rfl (fun K' hK' gops fin hgops hfin=>?_)
       · kernel_rfl
       · rfl
       · rfl
       repeat' first
        | (refine qa9 rfl trivial (by simp only [WD,simprocAttr,UX,UA];rfl) (by simp only [za,zb];rfl) (by simp only [zn2];rfl) ?_)
        | (refine qa8 rfl rfl trivial (by simp only [WD,simprocAttr,UX,UA,hb0,g1,g2,hp1,ze,zh ];rfl) ?_ (by simp only [WD,simprocAttr,UX,UA];rfl) (by simp only [WD,simprocAttr,UX,UA];rfl) (by simp only [za,zb];rfl) (by simp only [zn2];rfl) ?_;focus (first | trivial | ((repeat' apply zf) <;> first | trivial | assumption | (clear hK' hfin hgops;intros;simp_all;done))))
       (refine qb5 (by subst hfin;kernel_rfl) ?_)
       clear hfin hgops fin gops
       (try (apply hK';clear hK' K')))
      repeat' (first|(with_reducible apply zz1)|((with_reducible apply zz2);rfl;intro K' hK';simp only [WD,simprocAttr];(repeat (constructor;focus (clear hK';intros;simp_all;done)));(try (apply hK';clear hK' K')))|((with_reducible apply zz3);rfl;all_goals (intro h;try exact absurd h (by decide))))
      simp only [qf8,qd5,qa2,qd6,US,WD,simprocAttr,h0]
end Go.Proofs.YtgecnlcbdbaneaaDoor
