/- types.IsVar, labels: a symbolic walk. -/
import Derived.Test.YtgecnlcbdbaneaaDoorU1
import Derived.Test.YtgecnlcbdbaneaaDoorSwD
-- TYPESA
set_option linter.unusedVariables false
set_option linter.unusedSimpArgs false
namespace Go.Proofs.YtgecnlcbdbaneaaDoor
open Go.RowKit Go.Sw
open _root_.Bool renaming not_true → za, not_false → zb, false_and → zi, true_and → zm, and_false → zn, and_true → zo
open _root_.List renaming length_map → ze, getD → zh, drop_zero → zq
open _root_.Int renaming toNat_natCast → zf

abbrev endS : ByteArray:=⟨#[101,110,100]⟩
abbrev recS : ByteArray:=⟨#[114,101,99]⟩
def vb8 (s : ByteArray) : Bool:=if qe8 s = true then (if (s.toList == ByteArray.toList endS) = true then false else !(s.toList == ByteArray.toList recS)) else false
set_option maxHeartbeats 4000000 in
set_option maxRecDepth 100000 in
theorem yo8 (Γ : Gl) (s : ByteArray) : DFn Tryd.prog Γ 91 [sD s] (.v (.bool (vb8 s))):=by
 have hn:=xd5 Γ s
 unfold vb8
 cases e1 : qe8 s with
 | false =>
  rw [e1] at hn
  rw [if_neg (by decide)]
  refine qa4 (N:=13) Tryd.func91 rfl (by decide) rfl rfl (by simp) (fun C h0=>?_)
  simp only [qj1]
  repeat' (first|(with_reducible apply zz1)|((with_reducible apply zz2);rfl;intro K' hK';simp only [WA,simprocAttr];(repeat (constructor;focus (clear hK';intros;simp_all;done)));(try (apply hK';clear hK' K')))|((with_reducible apply zz3);rfl;all_goals (intro h;try exact absurd h (by decide))))
  refine qb1 rfl (by simp only [WA,simprocAttr]) rfl rfl (hn) ?_
  simp only [WA,simprocAttr,inX,qc7,za,zb,cond_true,cond_false]
  (repeat (constructor;focus (clear hK';intros;simp_all;done)))
  (try (apply hK';clear hK' K'))
  repeat' (first|(with_reducible apply zz1)|((with_reducible apply zz2);rfl;intro K' hK';simp only [WA,simprocAttr];(repeat (constructor;focus (clear hK';intros;simp_all;done)));(try (apply hK';clear hK' K')))|((with_reducible apply zz3);rfl;all_goals (intro h;try exact absurd h (by decide))))
  simp only [qf7,qd5,qa2,qd6,WA,simprocAttr]
 | true =>
  rw [e1] at hn
  rw [if_pos rfl]
  cases e2 : (s.toList == ByteArray.toList endS) with
  | true =>
   rw [if_pos rfl]
   refine qa4 (N:=13) Tryd.func91 rfl (by decide) rfl rfl (by simp) (fun C h0=>?_)
   simp only [qj1]
   repeat' (first|(with_reducible apply zz1)|((with_reducible apply zz2);rfl;intro K' hK';simp only [WA,simprocAttr];(repeat (constructor;focus (clear hK';intros;simp_all;done)));(try (apply hK';clear hK' K')))|((with_reducible apply zz3);rfl;all_goals (intro h;try exact absurd h (by decide))))
   refine qb1 rfl (by simp only [WA,simprocAttr]) rfl rfl (hn) ?_
   simp only [WA,simprocAttr,inX,qc7,e2,za,zb,cond_true,cond_false]
   (repeat (constructor;focus (clear hK';intros;simp_all;done)))
   (try (apply hK';clear hK' K'))
   repeat' (first|(with_reducible apply zz1)|((with_reducible apply zz2);rfl;intro K' hK';simp only [WA,simprocAttr];(repeat (constructor;focus (clear hK';intros;simp_all;done)));(try (apply hK';clear hK' K')))|((with_reducible apply zz3);rfl;all_goals (intro h;try exact absurd h (by decide))))
   simp only [qf7,qd5,qa2,qd6,WA,simprocAttr]
  | false =>
   rw [if_neg (by decide)]
   cases e3 : (s.toList == ByteArray.toList recS) with
   | true =>
    refine qa4 (N:=13) Tryd.func91 rfl (by decide) rfl rfl (by simp) (fun C h0=>?_)
    simp only [qj1]
    repeat' (first|(with_reducible apply zz1)|((with_reducible apply zz2);rfl;intro K' hK';simp only [WA,simprocAttr];(repeat (constructor;focus (clear hK';intros;simp_all;done)));(try (apply hK';clear hK' K')))|((with_reducible apply zz3);rfl;all_goals (intro h;try exact absurd h (by decide))))
    refine qb1 rfl (by simp only [WA,simprocAttr]) rfl rfl (hn) ?_
    simp only [WA,simprocAttr,inX,qc7,e2,e3,za,zb,cond_true,cond_false]
    (repeat (constructor;focus (clear hK';intros;simp_all;done)))
    (try (apply hK';clear hK' K'))
    repeat' (first|(with_reducible apply zz1)|((with_reducible apply zz2);rfl;intro K' hK';simp only [WA,simprocAttr];(repeat (constructor;focus (clear hK';intros;simp_all;done)));(try (apply hK';clear hK' K')))|((with_reducible apply zz3);rfl;all_goals (intro h;try exact absurd h (by decide))))
    simp only [qf7,qd5,qa2,qd6,WA,simprocAttr,za]
   | false =>
    refine qa4 (N:=13) Tryd.func91 rfl (by decide) rfl rfl (by simp) (fun C h0=>?_)
    simp only [qj1]
    repeat' (first|(with_reducible apply zz1)|((with_reducible apply zz2);rfl;intro K' hK';simp only [WA,simprocAttr];(repeat (constructor;focus (clear hK';intros;simp_all;done)));(try (apply hK';clear hK' K')))|((with_reducible apply zz3);rfl;all_goals (intro h;try exact absurd h (by decide))))
    refine qb1 rfl (by simp only [WA,simprocAttr]) rfl rfl (hn) ?_
    simp only [WA,simprocAttr,inX,qc7,e2,e3,za,zb,cond_true,cond_false]
    (repeat (constructor;focus (clear hK';intros;simp_all;done)))
    (try (apply hK';clear hK' K'))
    repeat' (first|(with_reducible apply zz1)|((with_reducible apply zz2);rfl;intro K' hK';simp only [WA,simprocAttr];(repeat (constructor;focus (clear hK';intros;simp_all;done)));(try (apply hK';clear hK' K')))|((with_reducible apply zz3);rfl;all_goals (intro h;try exact absurd h (by decide))))
    simp only [qf7,qd5,qa2,qd6,WA,simprocAttr,zb]
def leB (s p : ByteArray) : Bool:=Op.bytesLess s.toList p.toList || s.toList == p.toList
def vd5 : ByteArray → List ByteArray → Bool
 | _,[]=>true
 | p,s :: l=>if qe8 s = true then (if leB s p = true then false else vd5 s l) else false
def va9 : List ByteArray → Bool
 | []=>true
 | s :: l=>if qe8 s = true then vd5 s l else false
def qh8 (ls : List ByteArray) : Bool:=if ls.length < 1 then false else if 6 < ls.length then false else va9 ls
def qi5 (ls : List ByteArray) : Nat → Bool
 | 0=>va9 ls
 | j + 1=>vd5 (ls.getD j ⟨#[]⟩) (ls.drop (j + 1))

set_option maxHeartbeats 8000000 in
set_option maxRecDepth 100000 in
theorem yl7 (Γ : Gl) (ls : List ByteArray) : DFn Tryd.prog Γ 92 [.slc (ls.map sD)] (.v (.bool (qh8 ls))):=by
 unfold qh8
 by_cases h1 : ls.length < 1
 · have g1 : (ls.length : Int) < 1:=by omega
   rw [if_pos h1]
   refine qa4 (N:=37) Tryd.func92 rfl (by decide) rfl rfl (by simp) (fun C h0=>?_)
   simp only [qj1]
   repeat' (first|(with_reducible apply zz1)|((with_reducible apply zz2);rfl;intro K' hK';simp only [WA,simprocAttr,ze,g1,za,zb,cond_true,cond_false];(repeat (constructor;focus (clear hK';intros;simp_all;done)));(try (apply hK';clear hK' K')))|((with_reducible apply zz3);rfl;all_goals (intro h;try exact absurd h (by decide))))
   simp only [qf7,qd5,qa2,qd6,WA,simprocAttr]
 have g1 : ¬ (ls.length : Int) < 1:=by omega
 rw [if_neg h1]
 by_cases h2 : 6 < ls.length
 · have g2 : (6 : Int) < (ls.length : Int):=by omega
   rw [if_pos h2]
   refine qa4 (N:=37) Tryd.func92 rfl (by decide) rfl rfl (by simp) (fun C h0=>?_)
   simp only [qj1]
   repeat' (first|(with_reducible apply zz1)|((with_reducible apply zz2);rfl;intro K' hK';simp only [WA,simprocAttr,ze,g1,g2,za,zb,cond_true,cond_false];(repeat (constructor;focus (clear hK';intros;simp_all;done)));(try (apply hK';clear hK' K')))|((with_reducible apply zz3);rfl;all_goals (intro h;try exact absurd h (by decide))))
   simp only [qf7,qd5,qa2,qd6,WA,simprocAttr]
 have g2 : ¬ (6 : Int) < (ls.length : Int):=by omega
 rw [if_neg h2]
 refine qa4 (N:=37) Tryd.func92 rfl (by decide) rfl rfl (by simp) (fun C h0=>?_)
 simp only [qj1]
 repeat' (first|(with_reducible apply zz1)|((with_reducible apply zz2);rfl;intro K' hK';simp only [WA,simprocAttr,ze,g1,g2,za,zb,cond_true,cond_false];(repeat (constructor;focus (clear hK';intros;simp_all;done)));(try (apply hK';clear hK' K')))|((with_reducible apply zz3);rfl;all_goals (intro h;try exact absurd h (by decide))))
 refine qd3 (α := Nat) (fun j=>[(0,.d (.slc (ls.map sD))),(13,.d (.slc (ls.map sD))),(14,.d (iD ls.length)),(15,.d (iD j))]) (fun _=>[])
  (fun j=>j ≤ ls.length ∧ va9 ls = qi5 ls j) (fun j=>ls.length - j) 0 ⟨Nat.zero_le _,rfl⟩ (by refine qa3 h0 ?_ ?_ ?_ <;> simp only [US,WA,simprocAttr,ze]) (fun j hj=>?_)
 obtain ⟨hj,hch⟩:=hj
 have hb0 : (0 : Int) ≤ (j : Int):=by omega
 by_cases hlt : j < ls.length
 · obtain ⟨b,hx⟩ : ∃ b,ls[j]? = some b:=⟨ls[j],by simp [hlt]⟩
   have hget : (ls.map sD).getD j default = sD b:=by simp [zh,hx]
   have hb1 : (j : Int) < (ls.length : Int):=by omega
   have hw3 : IntKind.i64.wrap ((j : Int) + 1) = ((j + 1 : Nat) : Int):=by rw [qd7 (by omega) (by omega)];omega
   have hd : ls.drop j = b :: ls.drop (j + 1):=by
    obtain ⟨h1,h2⟩:=List.getElem?_eq_some_iff.1 hx
    rw [List.drop_eq_getElem_cons h1,h2]
   have hgb : ls.getD j ⟨#[]⟩ = b:=by simp [zh,hx]
   have hnext : qi5 ls (j + 1) = vd5 b (ls.drop (j + 1)):=by simp only [qi5,hgb]
   have hn:=xd5 Γ b
   -- what stands ahead (at the first place: what stands there)
   obtain ⟨q,m,hpos,hw1,hgp,htn⟩ : ∃ (q : ByteArray) (m : Int),(decide ((0 : Int) < (j : Int)) = decide (0 < j)) ∧ IntKind.i64.wrap ((j : Int) - 1) = m ∧ (ls.map sD).getD m.toNat default = sD q ∧ (0 < j → 0 ≤ m ∧ m < (ls.length : Int) ∧ qi5 ls j = vd5 q (b :: ls.drop (j + 1))):=by
    cases j with
    | zero=>exact ⟨b, -1,rfl,by decide,(by rw [show (-1 : Int).toNat = 0 from rfl];exact hget),fun h=>absurd h (Nat.lt_irrefl _)⟩
    | succ k =>
     obtain ⟨p,hp⟩ : ∃ p,ls[k]? = some p:=⟨ls[k]'(by omega),by simp⟩
     refine ⟨p,k,by rw [decide_eq_decide];omega,by rw [qd7 (by omega) (by omega)];omega,by simp [zh,hp],fun _=>⟨by omega,by omega,?_⟩⟩
     rw [qi5,hd,show ls.getD k ⟨#[]⟩ = p from by simp [zh,hp]]
   have h0r : ¬ 0 < j → qi5 ls j = va9 (b :: ls.drop (j + 1)):=fun h=>by
    obtain rfl : j = 0:=by omega
    rw [qi5, ← hd,zq]
   cases eN : qe8 b with
   | false =>
    rw [eN] at hn
    have hres : qi5 ls j = false:=by
     by_cases hz : 0 < j
     · rw [(htn hz).2.2,vd5,eN];rfl
     · rw [h0r hz,va9,eN];rfl
    repeat' (first|(with_reducible apply zz1)|((with_reducible apply zz2);rfl;intro K' hK';simp only [WA,simprocAttr,zf,hget,ze,hb0,hb1];(repeat (constructor;focus (clear hK';intros;simp_all;done)));(try (apply hK';clear hK' K')))|((with_reducible apply zz3);rfl;all_goals (intro h;try exact absurd h (by decide))))
    refine qb1 rfl (by simp only [WA,simprocAttr]) rfl rfl (hn) ?_
    simp only [WA,simprocAttr,inX,qc7,hw1,hgp,zf,ze,za,zb,zi,zm,zn,zo,cond_true,cond_false]
    (repeat (constructor;focus (clear hK';intros;simp_all;done)))
    (try (apply hK';clear hK' K'))
    repeat' (first|(with_reducible apply zz1)|((with_reducible apply zz2);rfl;intro K' hK';simp only [WA,simprocAttr];(repeat (constructor;focus (clear hK';intros;simp_all;done)));(try (apply hK';clear hK' K')))|((with_reducible apply zz3);rfl;all_goals (intro h;try exact absurd h (by decide))))
    simp only [qf7,qd5,qa2,qd6,WA,simprocAttr]
    rw [hch,hres]
   | true =>
    rw [eN] at hn
    by_cases hz : 0 < j
    · obtain ⟨hm0,hm1,hr⟩:=htn hz
      have hp1 : (0 : Int) < (j : Int):=by omega
      cases eL : leB b q with
      | true =>
       have hres : qi5 ls j = false:=by rw [hr,vd5,eN,eL];rfl
       unfold leB at eL
       repeat' (first|(with_reducible apply zz1)|((with_reducible apply zz2);rfl;intro K' hK';simp only [WA,simprocAttr,zf,hget,ze,hb0,hb1];(repeat (constructor;focus (clear hK';intros;simp_all;done)));(try (apply hK';clear hK' K')))|((with_reducible apply zz3);rfl;all_goals (intro h;try exact absurd h (by decide))))
       refine qb1 rfl (by simp only [WA,simprocAttr]) rfl rfl (hn) ?_
       simp only [WA,simprocAttr,inX,qc7,hp1,hw1,hgp,hm0,hm1,eL,zf,ze,za,zb,zi,zm,zn,zo,cond_true,cond_false]
       (repeat (constructor;focus (clear hK';intros;simp_all;done)))
       (try (apply hK';clear hK' K'))
       repeat' (first|(with_reducible apply zz1)|((with_reducible apply zz2);rfl;intro K' hK';simp only [WA,simprocAttr];(repeat (constructor;focus (clear hK';intros;simp_all;done)));(try (apply hK';clear hK' K')))|((with_reducible apply zz3);rfl;all_goals (intro h;try exact absurd h (by decide))))
       simp only [qf7,qd5,qa2,qd6,WA,simprocAttr]
       rw [hch,hres]
      | false =>
       have hres : qi5 ls j = qi5 ls (j + 1):=by rw [hr,hnext,vd5,eN,eL];rfl
       unfold leB at eL
       repeat' (first|(with_reducible apply zz1)|((with_reducible apply zz2);rfl;intro K' hK';simp only [WA,simprocAttr,zf,hget,ze,hb0,hb1];(repeat (constructor;focus (clear hK';intros;simp_all;done)));(try (apply hK';clear hK' K')))|((with_reducible apply zz3);rfl;all_goals (intro h;try exact absurd h (by decide))))
       refine qb1 rfl (by simp only [WA,simprocAttr]) rfl rfl (hn) ?_
       simp only [WA,simprocAttr,inX,qc7,hp1,hw1,hgp,hm0,hm1,eL,zf,ze,za,zb,zi,zm,zn,zo,cond_true,cond_false]
       (repeat (constructor;focus (clear hK';intros;simp_all;done)))
       (try (apply hK';clear hK' K'))
       repeat' (first|(with_reducible apply zz1)|((with_reducible apply zz2);rfl;intro K' hK';simp only [WA,simprocAttr,hw3];(repeat (constructor;focus (clear hK';intros;simp_all;done)));(try (apply hK';clear hK' K')))|((with_reducible apply zz3);rfl;all_goals (intro h;try exact absurd h (by decide))))
       refine ⟨j + 1,⟨(by show j + 1 ≤ ls.length;omega),by rw [hch,hres]⟩,(by show ls.length - (j + 1) < ls.length - j;omega),by refine qa3 h0 ?_ ?_ ?_ <;> simp only [US,WA,simprocAttr]⟩
    · have hp1 : ¬ (0 : Int) < (j : Int):=by omega
      have hres : qi5 ls j = qi5 ls (j + 1):=by rw [h0r hz,hnext,va9,eN];rfl
      repeat' (first|(with_reducible apply zz1)|((with_reducible apply zz2);rfl;intro K' hK';simp only [WA,simprocAttr,zf,hget,ze,hb0,hb1];(repeat (constructor;focus (clear hK';intros;simp_all;done)));(try (apply hK';clear hK' K')))|((with_reducible apply zz3);rfl;all_goals (intro h;try exact absurd h (by decide))))
      refine qb1 rfl (by simp only [WA,simprocAttr]) rfl rfl (hn) ?_
      simp only [WA,simprocAttr,inX,qc7,hp1,hw1,hgp,zf,ze,za,zb,zi,zm,zn,zo,cond_true,cond_false]
      (repeat (constructor;focus (clear hK';intros;simp_all;done)))
      (try (apply hK';clear hK' K'))
      repeat' (first|(with_reducible apply zz1)|((with_reducible apply zz2);rfl;intro K' hK';simp only [WA,simprocAttr,hw3];(repeat (constructor;focus (clear hK';intros;simp_all;done)));(try (apply hK';clear hK' K')))|((with_reducible apply zz3);rfl;all_goals (intro h;try exact absurd h (by decide))))
      refine ⟨j + 1,⟨(by show j + 1 ≤ ls.length;omega),by rw [hch,hres]⟩,(by show ls.length - (j + 1) < ls.length - j;omega),by refine qa3 h0 ?_ ?_ ?_ <;> simp only [US,WA,simprocAttr]⟩
 · have hb1 : ¬ (j : Int) < (ls.length : Int):=by omega
   have hres : qi5 ls j = true:=by
    have hd : ls.drop j = []:=List.drop_of_length_le (by omega)
    cases j with
    | zero=>rw [zq] at hd;rw [qi5,hd];rfl
    | succ k=>rw [qi5,hd];rfl
   repeat' (first|(with_reducible apply zz1)|((with_reducible apply zz2);rfl;intro K' hK';simp only [WA,simprocAttr,hb1];(repeat (constructor;focus (clear hK';intros;simp_all;done)));(try (apply hK';clear hK' K')))|((with_reducible apply zz3);rfl;all_goals (intro h;try exact absurd h (by decide))))
   simp only [qf7,qd5,qa2,qd6,WA,simprocAttr]
   rw [hch,hres]
end Go.Proofs.YtgecnlcbdbaneaaDoor
/- types.shaped: a symbolic walk. -/
-- TYPESA
namespace Go.Proofs.YtgecnlcbdbaneaaDoor
open Go.RowKit Go.Sw
open _root_.Or renaming inr → za, inl → zb
open Go.Sw renaming ql8 → zw0

inductive Tp where
 | mk (k so : Int) (nm : ByteArray) (ls : List ByteArray) (kids : List Tp)
mutual
def Tp.d : Tp → D
 | .mk k so nm ls l=>.agg [.v (.int .i64 k),.v (.int .i64 so),.v (.string nm),.slc (ls.map fun b=>.v (.string b)),.slc (Tp.ds l)]
def Tp.ds : List Tp → List D
 | []=>[]
 | x :: l=>Tp.d x :: Tp.ds l
end
theorem Tp.ds_len : ∀ l : List Tp,(Tp.ds l).length = l.length
 | []=>rfl
 | x :: l=>by simp [Tp.ds,Tp.ds_len l]
theorem Tp.ds_get : ∀ (l : List Tp) (j : Nat) (x : Tp),l[j]? = some x → (Tp.ds l).getD j default = x.d
 | y :: l,0,x,h=>by simp at h;subst h;simp [Tp.ds]
 | y :: l,j + 1,x,h=>by
  have:=Tp.ds_get l j x (by simpa using h)
  simpa [Tp.ds] using this
def xd8 (s : ByteArray) : Bool:=s.toList == ByteArray.toList ⟨#[]⟩
def vg6 (sort : Bool) (so : Int) : Bool:=if sort = true then (if 1 ≤ so then decide (so ≤ 3) else false) else so == 0
def kindOf (k : Int) (n : Nat) : Option (Nat × Bool × Bool × Bool) :=
 if k = 1 then some (0,false,false,false) else if k = 2 ∨ k = 3 then some (1,true,false,false) else if k = 4 ∨ k = 5 then some (2,false,false,false)
 else if k = 6 ∨ k = 7 then some (n,false,false,true) else if k = 8 then some (1,false,true,false) else if k = 9 then some (0,false,true,false) else none
def vf8 (i : Nat × Bool × Bool × Bool) (so : Int) (nm : ByteArray) (ls : List ByteArray) (n : Nat) : Bool :=
 if n = i.1 then (if vg6 i.2.1 so = true then (if (if i.2.2.1 = true then vb8 nm else xd8 nm) = true then (if i.2.2.2 = true then qh8 ls else decide (ls.length = 0)) else false) else false) else false
def qg0 : Tp → Bool
 | .mk k so nm ls l=>match kindOf k ls.length with
  | some i=>vf8 i so nm ls l.length
  | none=>false

theorem ym3 {k : Int} {n : Nat} {i : Nat × Bool × Bool × Bool} (h : kindOf k n = some i) : i.2 = (false,false,false) ∨ i.2 = (true,false,false) ∨ i.2 = (false,false,true) ∨ i.2 = (false,true,false):=by
 unfold kindOf at h
 split at h
 · cases h;exact zb rfl
 split at h
 · cases h;exact za (zb rfl)
 split at h
 · cases h;exact zb rfl
 split at h
 · cases h;exact za (za (zb rfl))
 split at h
 · cases h;exact za (za (za rfl))
 split at h
 · cases h;exact za (za (za rfl))
 · cases h

set_option maxHeartbeats 16000000 in
set_option maxRecDepth 100000 in
theorem yb0 (Γ : Gl) (x : Tp) : DFn Tryd.prog Γ 80 [x.d] (.v (.bool (qg0 x))):=by
 obtain ⟨k,so,nm,ls,l⟩:=x
 have hll:=Tp.ds_len l
 have hv:=yo8 Γ nm
 have hlb:=yl7 Γ ls
 obtain ⟨R,hR⟩ : ∃ R,qg0 (.mk k so nm ls l) = R:=⟨_,rfl⟩
 rw [hR]
 simp only [Tp.d]
 refine qa4 (N:=87) Tryd.func80 rfl (by decide) rfl rfl (by simp) (fun C h0=>?_)
 simp only [qj1]
 refine zw0 ?_
 (with_reducible refine qg2 ?_ (fun K' hK'=>?_)
  · rfl
  simp only [WA,simprocAttr]
  (repeat (constructor;focus (clear hK';intros;simp_all;done))))
 refine hK' _ _ ?_
 clear hK' K'
 refine qo9 ?_
 refine zw0 ?_
 (with_reducible refine qg2 ?_ (fun K' hK'=>?_)
  · rfl
  simp only [WA,simprocAttr]
  (repeat (constructor;focus (clear hK';intros;simp_all;done))))
 refine hK' _ _ ?_
 clear hK' K'
 refine qo9 ?_
 refine zw0 ?_
 refine xq0 (ι := Nat × Bool × Bool × Bool) (fun i=>[(1,.ref 0 0),(3,.d (iD i.1)),(4,.d (.v (.bool i.2.1))),(5,.d (.v (.bool i.2.2.1))),(6,.d (.v (.bool i.2.2.2)))])
  (fun _=>[(0,.cells [.d (iD k),.d (iD so),.d (sD nm),.d (.slc (ls.map sD)),.d (.slc (Tp.ds l))])]) (fun i=>kindOf k ls.length = some i) ?_ (fun i hi=>?_)
 · have hRn : kindOf k ls.length = none → R = false:=fun h=>by rw [← hR,qg0,h]
   clear hv hlb hR
   repeat' (first|(with_reducible apply zz1)|((with_reducible apply zz2);rfl;intro K' hK';simp only [WA,simprocAttr,List.length_map];(repeat (constructor;focus (clear hK';intros;simp_all;done)));(try (apply hK';clear hK' K')))|((with_reducible apply zz3);rfl;all_goals (intro h;try exact absurd h (by decide))))
   all_goals first
    | (exfalso;clear hRn;simp_all;done)
    | (refine yj4 ?_;simp only [qf7,qd5,qa2,qd6,WA,simprocAttr];rw [hRn (by clear hRn;simp_all [kindOf])];done)
    | (refine qw8 (0,false,false,false) ?_ ?_;(focus (clear hRn;simp_all [kindOf];done));refine qa3 h0 ?_ ?_ ?_ <;> simp only [US,WA,simprocAttr])
    | (refine qw8 (1,true,false,false) ?_ ?_;(focus (clear hRn;simp_all [kindOf];done));refine qa3 h0 ?_ ?_ ?_ <;> simp only [US,WA,simprocAttr])
    | (refine qw8 (2,false,false,false) ?_ ?_;(focus (clear hRn;simp_all [kindOf];done));refine qa3 h0 ?_ ?_ ?_ <;> simp only [US,WA,simprocAttr])
    | (refine qw8 (ls.length,false,false,true) ?_ ?_;(focus (clear hRn;simp_all [kindOf];done));refine qa3 h0 ?_ ?_ ?_ <;> simp only [US,WA,simprocAttr])
    | (refine qw8 (1,false,true,false) ?_ ?_;(focus (clear hRn;simp_all [kindOf];done));refine qa3 h0 ?_ ?_ ?_ <;> simp only [US,WA,simprocAttr])
    | (refine qw8 (0,false,true,false) ?_ ?_;(focus (clear hRn;simp_all [kindOf];done));refine qa3 h0 ?_ ?_ ?_ <;> simp only [US,WA,simprocAttr])
 have h4:=ym3 hi
 obtain ⟨n,so',nm',ls'⟩:=i
 simp only [Prod.mk.injEq] at h4
 simp only [qg0,hi] at hR
 refine zw0 ?_
 -- TRACE
 (with_reducible refine xk3 ?_ ( [(30,.v (.bool (vb8 nm))),(47,.v (.bool (qh8 ls)))]) (fun K' hK'=>?_)
  · rfl
  simp only [WA,simprocAttr,UG,hll,hv,hlb,List.length_map ]
  (repeat (constructor;focus (clear hK';intros;simp_all;done)))
  (try (apply hK';clear hK' K')))
 repeat' (first|(with_reducible apply zz1)|((with_reducible apply zz2);rfl;intro K' hK';simp only [WA,simprocAttr];(repeat (constructor;focus (clear hK';intros;simp_all;done)));(try (apply hK';clear hK' K')))|((with_reducible apply zz3);rfl;all_goals (intro h;try exact absurd h (by decide))))
 simp only [qf7,qd5,qa2,qd6,WA,simprocAttr]
 rw [← hR]
 clear hR hv hlb hi
 unfold vf8 vg6 xd8
 refine congrArg (fun b=>some (D.v (Value.bool b))) ?_
 have q1 : ((l.length : Int) == (n : Int)) = decide (l.length = n):=by
  rw [Bool.eq_iff_iff,beq_iff_eq,decide_eq_true_iff];omega
 have q2 : ((ls.length : Int) == 0) = decide (ls.length = 0):=by
  rw [Bool.eq_iff_iff,beq_iff_eq,decide_eq_true_iff];omega
 rw [q1,q2]
 generalize vb8 nm = v
 generalize qh8 ls = lb
 generalize (nm.toList == ByteArray.toList ⟨#[]⟩) = em
 rcases h4 with ⟨rfl,rfl,rfl⟩ | ⟨rfl,rfl,rfl⟩ | ⟨rfl,rfl,rfl⟩ | ⟨rfl,rfl,rfl⟩
 all_goals
  by_cases hn : l.length = n <;> by_cases h1 : 1 ≤ so <;> by_cases h3 : so ≤ 3 <;> by_cases hz : so = 0 <;> by_cases hL : ls.length = 0 <;> first
   | (exfalso;omega)
   | (cases v <;> cases lb <;> cases em <;> simp [hn,h1,h3,hz,hL];done)
   | (simp [hn,h1,h3,hz,hL];done)
end Go.Proofs.YtgecnlcbdbaneaaDoor
