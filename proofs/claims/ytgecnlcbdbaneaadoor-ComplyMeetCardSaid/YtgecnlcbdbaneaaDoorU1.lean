/- Lists of texts; names: a symbolic walk. -/
-- TYPESA
import Derived.IntWalk
import Derived.Test.YtgecnlcbdbaneaaDoorTA
import Derived.Test.YtgecnlcbdbaneaaDoorSwD
import Derived.Test.YtgecnlcbdbaneaaDoorShelfT
set_option linter.unusedVariables false
set_option linter.unusedSimpArgs false
namespace Go.Proofs.YtgecnlcbdbaneaaDoor
open Go.RowKit Go.Sw
open _root_.Bool renaming not_true → za, not_false → zb
open _root_.List renaming length_map → ze, map_nil → zf, map_cons → zh
open Go.Sw renaming ql8 → zw0, qz4 → zw1, qr8 → zw2, vh7 → zw4, qz2 → zw5, qo9 → zw6, xo6 → zw7, xr0 → zw8, xr8 → zw9, xp5 → zw10, vt9 → zw11, vx4 → zw12, vw1 → zw13, vu3 → zw14, qn6 → zw15, qr3 → zw16, qg2 → zw17

abbrev iD (n : Int) : D:=.v (.int .i64 n)
abbrev sD (s : ByteArray) : D:=.v (.string s)
def xv1 (l : List UInt8) : ByteArray:=⟨l.toArray⟩
theorem qd7 {x : Int} (h1 : -9223372036854775808 ≤ x) (h2 : x < 9223372036854775808) : IntKind.i64.wrap x = x:=IntWalk.i64_in x ⟨h1,by omega⟩
theorem vy0 : 1 ≤ maxLen:=by unfold maxLen;omega
theorem va8 : (⟨#[]⟩ : ByteArray).toList = []:=by decide +kernel

set_option maxHeartbeats 4000000 in
set_option maxRecDepth 100000 in
theorem qu1 (Γ : Gl) (l : List ByteArray) (hl : l.length * 16 ≤ 140737488355328) : SFn Tryd.prog Γ 63 [.d (.slc (l.map sD))] [] (.own 0) [(0,.row 1 (l.map sD))]:=by
 refine qe0 (N:=8) Tryd.func63 rfl (by decide) rfl rfl (by simp) (fun C h0=>?_)
 simp only [vg9]
 repeat' (first|(with_reducible first|apply zw0|apply zw1|apply zw2|apply zw4|apply zw5|apply zw6|apply zw7|apply zw8|apply zw9|apply zw10|apply zw11|apply zw13|apply zw14)|((with_reducible refine zw12 ?_ ?_);rfl)|((with_reducible refine zw16 ?_ ?_ (fun K' hK'=>?_));rfl;rfl;simp only [WA,simprocAttr];(repeat (constructor;focus (clear hK';intros;simp_all;done)));(try (apply hK';clear hK' K')))|((with_reducible refine zw15 ?_ ?_);rfl;refine ⟨_,rfl,fun h=>?_,fun h=>?_⟩ <;> try exact absurd h (by decide)))
 refine qy4 un22 rfl rfl trivial (fun b hb=>?_)
 simp only [WA,simprocAttr]
 refine hK' _ _ ?_
 clear hK' K'
 cases l with
 | nil =>
  repeat' (first|(with_reducible first|apply zw0|apply zw1|apply zw2|apply zw4|apply zw5|apply zw6|apply zw7|apply zw8|apply zw9|apply zw10|apply zw11|apply zw13|apply zw14)|((with_reducible refine zw12 ?_ ?_);rfl)|((with_reducible refine zw16 ?_ ?_ (fun K' hK'=>?_));rfl;rfl;simp only [WA,simprocAttr];(repeat (constructor;focus (clear hK';intros;simp_all;done)));(try (apply hK';clear hK' K')))|((with_reducible refine zw15 ?_ ?_);rfl;refine ⟨_,rfl,fun h=>?_,fun h=>?_⟩ <;> try exact absurd h (by decide)))
  · refine qm9 2 0 1 rfl rfl (by decide) ?_
    simp only [WA,simprocAttr]
    repeat' (first|(with_reducible apply zz1)|((with_reducible apply zz2);rfl;intro K' hK';simp only [WA,simprocAttr];(repeat (constructor;focus (clear hK';intros;simp_all;done)));(try (apply hK';clear hK' K')))|((with_reducible apply zz3);rfl;all_goals (intro h;try exact absurd h (by decide))))
    simp only [qf8,qd5,qa2,qd6,US,WA,simprocAttr,h0,zf]
  · repeat' (first|(with_reducible first|apply zw0|apply zw1|apply zw2|apply zw4|apply zw5|apply zw6|apply zw7|apply zw8|apply zw9|apply zw10|apply zw11|apply zw13|apply zw14)|((with_reducible refine zw12 ?_ ?_);rfl)|((with_reducible refine zw16 ?_ ?_ (fun K' hK'=>?_));rfl;rfl;simp only [WA,simprocAttr];(repeat (constructor;focus (clear hK';intros;simp_all;done)));(try (apply hK';clear hK' K')))|((with_reducible refine zw15 ?_ ?_);rfl;refine ⟨_,rfl,fun h=>?_,fun h=>?_⟩ <;> try exact absurd h (by decide)))
    refine vw8 ?_
    simp only [qf8,qd5,qa2,qd6,US,WA,simprocAttr,h0,zf]
 | cons x l =>
  have hb:=hb (by simp)
  subst hb
  have hm1 : (l.length + 1) * 16 ≤ 140737488355328:=by simpa using hl
  have hm2 : l.length + 1 ≤ maxLen:=by unfold maxLen;omega
  have hfit : ∀ d ∈ (x :: l).map sD,D.fits 1 d:=by
   intro d hd
   obtain ⟨y, -,rfl⟩:=List.mem_map.1 hd
   exact ⟨rfl,trivial⟩
  simp only [zh] at hfit
  repeat' (first|(with_reducible apply zz1)|((with_reducible apply zz2);rfl;intro K' hK';simp only [WA,simprocAttr,ze,hm1,hm2];(repeat (constructor;focus (clear hK';intros;simp_all;done)));(try (apply hK';clear hK' K')))|((with_reducible apply zz3);rfl;all_goals (intro h;try exact absurd h (by decide))))
  refine ⟨hfit,?_⟩
  refine hK' _ _ ?_
  clear hK' K'
  repeat' (first|(with_reducible apply zz1)|((with_reducible apply zz2);rfl;intro K' hK';simp only [WA,simprocAttr];(repeat (constructor;focus (clear hK';intros;simp_all;done)));(try (apply hK';clear hK' K')))|((with_reducible apply zz3);rfl;all_goals (intro h;try exact absurd h (by decide))))
  simp only [qf8,qd5,qa2,qd6,US,WA,simprocAttr,h0,zh]
def vn7 (s : List UInt8) : List ByteArray → Nat → Int
 | [],_ => -1
 | b :: l,j=>if s = b.toList then (j : Int) else vn7 s l (j + 1)
theorem xl8 (s : List UInt8) : ∀ (l : List ByteArray) (j : Nat),decide (0 ≤ vn7 s l j) = l.any fun b=>s == b.toList
 | [],j=>rfl
 | b :: l,j=>by
  unfold vn7
  by_cases h : s = b.toList
  · rw [if_pos h];simp [h]
  · rw [if_neg h,xl8 s l (j + 1)];simp [h]

set_option maxHeartbeats 4000000 in
set_option maxRecDepth 100000 in
theorem qm5 (Γ : Gl) (l : List ByteArray) (s : ByteArray) (hl : l.length ≤ 140737488355328) : DFn Tryd.prog Γ 34 [.slc (l.map sD),sD s] (iD (vn7 s.toList l 0)):=by
 refine qa4 (N:=19) Tryd.func34 rfl (by decide) rfl rfl (by simp) (fun C h0=>?_)
 simp only [qj1]
 repeat' (first|(with_reducible apply zz1)|((with_reducible apply zz2);rfl;intro K' hK';simp only [WA,simprocAttr,ze];(repeat (constructor;focus (clear hK';intros;simp_all;done)));(try (apply hK';clear hK' K')))|((with_reducible apply zz3);rfl;all_goals (intro h;try exact absurd h (by decide))))
 refine qd3 (α := Nat) (fun j=>[(0,.d (.slc (l.map sD))),(1,.d (sD s)),(7,.d (iD l.length)),(8,.d (iD j))]) (fun _=>[])
  (fun j=>j ≤ l.length ∧ vn7 s.toList l 0 = vn7 s.toList (l.drop j) j) (fun j=>l.length - j) 0 ⟨Nat.zero_le _,rfl⟩ (by refine qa3 h0 ?_ ?_ ?_ <;> simp only [US,WA,simprocAttr,ze]) (fun j hj=>?_)
 obtain ⟨hj,hch⟩:=hj
 have hb0 : (0 : Int) ≤ (j : Int):=by omega
 by_cases hlt : j < l.length
 · obtain ⟨b,hx⟩ : ∃ b,l[j]? = some b:=⟨l[j],by simp [hlt]⟩
   have hget : (l.map sD).getD j default = sD b:=by simp [List.getD,hx]
   have hb1 : (j : Int) < (l.length : Int):=by omega
   have hw3 : IntKind.i64.wrap ((j : Int) + 1) = ((j + 1 : Nat) : Int):=by rw [qd7 (by omega) (by omega)];omega
   have hd : l.drop j = b :: l.drop (j + 1):=by
    obtain ⟨h1,h2⟩:=List.getElem?_eq_some_iff.1 hx
    rw [List.drop_eq_getElem_cons h1,h2]
   rw [hd] at hch
   simp only [vn7] at hch
   repeat' (first|(with_reducible apply zz1)|((with_reducible apply zz2);rfl;intro K' hK';simp only [WA,simprocAttr,Int.toNat_natCast,hget,ze,hb0,hb1,hw3];(repeat (constructor;focus (clear hK';intros;simp_all;done)));(try (apply hK';clear hK' K')))|((with_reducible apply zz3);rfl;all_goals (intro h;try exact absurd h (by decide))))
   · simp only [qf7,qd5,qa2,qd6,WA,simprocAttr]
     have h : s.toList = b.toList:=by simpa using h
     rw [hch,if_pos h]
   · have h : ¬ s.toList = b.toList:=by simpa using h
     rw [if_neg h] at hch
     refine ⟨j + 1,⟨(by show j + 1 ≤ l.length;omega),hch⟩,(by show l.length - (j + 1) < l.length - j;omega),by refine qa3 h0 ?_ ?_ ?_ <;> simp only [US,WA,simprocAttr]⟩
 · have hb1 : ¬ (j : Int) < (l.length : Int):=by omega
   repeat' (first|(with_reducible apply zz1)|((with_reducible apply zz2);rfl;intro K' hK';simp only [WA,simprocAttr,hb1];(repeat (constructor;focus (clear hK';intros;simp_all;done)));(try (apply hK';clear hK' K')))|((with_reducible apply zz3);rfl;all_goals (intro h;try exact absurd h (by decide))))
   simp only [qf7,qd5,qa2,qd6,WA,simprocAttr]
   rw [hch,List.drop_of_length_le (by omega)]
   rfl

set_option maxHeartbeats 4000000 in
set_option maxRecDepth 100000 in
theorem qj7 (Γ : Gl) (l : List ByteArray) (s : ByteArray) (hl : l.length ≤ 140737488355328) : DFn Tryd.prog Γ 62 [.slc (l.map sD),sD s] (.v (.bool (l.any fun b=>s.toList == b.toList))):=by
 have hc:=qm5 Γ l s hl
 refine qa4 (N:=9) Tryd.func62 rfl (by decide) rfl rfl (by simp) (fun C h0=>?_)
 simp only [qj1]
 repeat' (first|(with_reducible apply zz1)|((with_reducible apply zz2);rfl;intro K' hK';simp only [WA,simprocAttr];(repeat (constructor;focus (clear hK';intros;simp_all;done)));(try (apply hK';clear hK' K')))|((with_reducible apply zz3);rfl;all_goals (intro h;try exact absurd h (by decide))))
 refine qb1 rfl (by simp only [WA,simprocAttr]) rfl rfl (hc) ?_
 simp only [WA,simprocAttr,inX,qc7, ]
 (repeat (constructor;focus (clear hK';intros;simp_all;done)))
 (try (apply hK';clear hK' K'))
 repeat' (first|(with_reducible apply zz1)|((with_reducible apply zz2);rfl;intro K' hK';simp only [WA,simprocAttr];(repeat (constructor;focus (clear hK';intros;simp_all;done)));(try (apply hK';clear hK' K')))|((with_reducible apply zz3);rfl;all_goals (intro h;try exact absurd h (by decide))))
 simp only [qf7,qd5,qa2,qd6,WA,simprocAttr]
 rw [← xl8 s.toList l 0]
def yp0 : ByteArray:=⟨#[97,98,99,100,101,102,103,104,105,106,107,108,109,110,111,112,113,114,115,116,117,118,119,120,121,122]⟩
theorem xy7 (j : Nat) (b : UInt8) (h : yp0.data.toList[j]? = some b) : b.toNat < 128:=by
 have hm:=List.mem_of_getElem? h
 have : ∀ b ∈ yp0.data.toList,b.toNat < 128:=by decide
 exact this b hm
def trimS (s : ByteArray) : ByteArray:=xv1 (Lib.trimS s.data.toList yp0.data.toList)
theorem trim_fn (Γ : Gl) (s : ByteArray) (hs : s.size ≤ 9223372036854775807) : DFn Tryd.prog Γ 104 [sD s,sD yp0] (sD (trimS s)) :=
 ye0 (by kernel_rfl) rfl rfl fun w h=>Tryd.strings_Trim_ascii s yp0 w hs (by decide) xy7
def vz5 : List ByteArray:=[⟨#[116,114,117,101]⟩,⟨#[102,97,108,115,101]⟩,⟨#[97,110,100]⟩,⟨#[111,114]⟩,⟨#[110,111,116]⟩]
def inL (l : List ByteArray) (s : ByteArray) : Bool:=l.any fun b=>s.toList == b.toList
def qe8 (s : ByteArray) : Bool:=if s.toList = [] then false else if 8 < s.size then false else if (trimS s).toList = [] then !(inL vz5 s) else false

set_option maxHeartbeats 4000000 in
set_option maxRecDepth 100000 in
theorem xd5 (Γ : Gl) (s : ByteArray) : DFn Tryd.prog Γ 99 [sD s] (.v (.bool (qe8 s))):=by
 by_cases e1 : s.toList = []
 · have g1 : (s.toList == ByteArray.toList ⟨#[]⟩) = true:=by rw [va8,e1];rfl
   rw [show qe8 s = false from by unfold qe8;rw [if_pos e1]]
   refine qa4 (N:=19) Tryd.func99 rfl (by decide) rfl rfl (by simp) (fun C h0=>?_)
   simp only [qj1]
   repeat' (first|(with_reducible apply zz1)|((with_reducible apply zz2);rfl;intro K' hK';simp only [WA,simprocAttr];(repeat (constructor;focus (clear hK';intros;simp_all;done)));(try (apply hK';clear hK' K')))|((with_reducible apply zz3);rfl;all_goals (intro h;try exact absurd h (by decide))))
   (with_reducible refine zw17 ?_ (fun K' hK'=>?_)
    · rfl
    simp only [WA,simprocAttr,g1,za,zb,cond_true,cond_false]
    (repeat (constructor;focus (clear hK';intros;simp_all;done))))
   refine qv7 rfl rfl ?_
   simp only [WA,simprocAttr,g1,za,zb,cond_true,cond_false]
   (try (apply hK';clear hK' K'))
   refine qv7 rfl rfl ?_
   simp only [WA,simprocAttr,g1,za,zb,cond_true,cond_false]
   (try (apply hK';clear hK' K'))
   repeat' (first|(with_reducible apply zz1)|((with_reducible apply zz2);rfl;intro K' hK';simp only [WA,simprocAttr];(repeat (constructor;focus (clear hK';intros;simp_all;done)));(try (apply hK';clear hK' K')))|((with_reducible apply zz3);rfl;all_goals (intro h;try exact absurd h (by decide))))
   simp only [qf7,qd5,qa2,qd6,WA,simprocAttr]
 have g1 : (s.toList == ByteArray.toList ⟨#[]⟩) = false:=by rw [va8];simpa using e1
 by_cases e2 : 8 < s.size
 · have g2 : (8 : Int) < (s.size : Int):=by omega
   rw [show qe8 s = false from by unfold qe8;rw [if_neg e1,if_pos e2]]
   refine qa4 (N:=19) Tryd.func99 rfl (by decide) rfl rfl (by simp) (fun C h0=>?_)
   simp only [qj1]
   repeat' (first|(with_reducible apply zz1)|((with_reducible apply zz2);rfl;intro K' hK';simp only [WA,simprocAttr];(repeat (constructor;focus (clear hK';intros;simp_all;done)));(try (apply hK';clear hK' K')))|((with_reducible apply zz3);rfl;all_goals (intro h;try exact absurd h (by decide))))
   (with_reducible refine zw17 ?_ (fun K' hK'=>?_)
    · rfl
    simp only [WA,simprocAttr,g1,g2,za,zb,cond_true,cond_false]
    (repeat (constructor;focus (clear hK';intros;simp_all;done))))
   refine qv7 rfl rfl ?_
   simp only [WA,simprocAttr,g1,za,zb,cond_true,cond_false]
   (try (apply hK';clear hK' K'))
   refine qv7 rfl rfl ?_
   simp only [WA,simprocAttr,g1,za,zb,cond_true,cond_false]
   (try (apply hK';clear hK' K'))
   repeat' (first|(with_reducible apply zz1)|((with_reducible apply zz2);rfl;intro K' hK';simp only [WA,simprocAttr];(repeat (constructor;focus (clear hK';intros;simp_all;done)));(try (apply hK';clear hK' K')))|((with_reducible apply zz3);rfl;all_goals (intro h;try exact absurd h (by decide))))
   simp only [qf7,qd5,qa2,qd6,WA,simprocAttr]
 have g2 : ¬ (8 : Int) < (s.size : Int):=by omega
 have ht:=trim_fn Γ s (by omega)
 have hc:=qj7 Γ vz5 s (by decide)
 rw [show qe8 s = if (trimS s).toList = [] then !(inL vz5 s) else false from by unfold qe8;rw [if_neg e1,if_neg e2]]
 generalize trimS s = T at ht ⊢
 by_cases e3 : T.toList = []
 · have g3 : (T.toList == ByteArray.toList ⟨#[]⟩) = true:=by rw [va8,e3];rfl
   rw [if_pos e3]
   simp only [vz5,zh,zf] at hc
   unfold inL vz5
   generalize (List.any [(⟨#[116,114,117,101]⟩ : ByteArray),⟨#[102,97,108,115,101]⟩,⟨#[97,110,100]⟩,⟨#[111,114]⟩,⟨#[110,111,116]⟩] fun b=>s.toList == b.toList) = B at hc ⊢
   refine qa4 (N:=19) Tryd.func99 rfl (by decide) rfl rfl (by simp) (fun C h0=>?_)
   simp only [qj1]
   repeat' (first|(with_reducible apply zz1)|((with_reducible apply zz2);rfl;intro K' hK';simp only [WA,simprocAttr];(repeat (constructor;focus (clear hK';intros;simp_all;done)));(try (apply hK';clear hK' K')))|((with_reducible apply zz3);rfl;all_goals (intro h;try exact absurd h (by decide))))
   (with_reducible refine zw17 ?_ (fun K' hK'=>?_)
    · rfl
    simp only [WA,simprocAttr,g1,g2,za,zb,cond_true,cond_false]
    (repeat (constructor;focus (clear hK';intros;simp_all;done))))
   refine vt0 rfl ?_
   refine qb1 rfl (by simp only [WA,simprocAttr]) rfl rfl (ht) ?_
   simp only [WA,simprocAttr,inX,qc7,g3,za,zb,cond_true,cond_false]
   (repeat (constructor;focus (clear hK';intros;simp_all;done)))
   (try (apply hK';clear hK' K'))
   repeat' (first|(with_reducible apply zz1)|((with_reducible apply zz2);rfl;intro K' hK';simp only [WA,simprocAttr,vy0];(repeat (constructor;focus (clear hK';intros;simp_all;done)));(try (apply hK';clear hK' K')))|((with_reducible apply zz3);rfl;all_goals (intro h;try exact absurd h (by decide))))
   -- TRACE
   refine qb1 rfl (by simp only [WA,simprocAttr] <;> decide) rfl rfl (hc) ?_
   simp only [WA,simprocAttr,inX,qc7, ]
   (repeat (constructor;focus (clear hK';intros;simp_all;done)))
   (try (apply hK';clear hK' K'))
   repeat' (first|(with_reducible apply zz1)|((with_reducible apply zz2);rfl;intro K' hK';simp only [WA,simprocAttr];(repeat (constructor;focus (clear hK';intros;simp_all;done)));(try (apply hK';clear hK' K')))|((with_reducible apply zz3);rfl;all_goals (intro h;try exact absurd h (by decide))))
   simp only [qf7,qd5,qa2,qd6,WA,simprocAttr]
 · have g3 : (T.toList == ByteArray.toList ⟨#[]⟩) = false:=by rw [va8];simpa using e3
   rw [if_neg e3]
   refine qa4 (N:=19) Tryd.func99 rfl (by decide) rfl rfl (by simp) (fun C h0=>?_)
   simp only [qj1]
   repeat' (first|(with_reducible apply zz1)|((with_reducible apply zz2);rfl;intro K' hK';simp only [WA,simprocAttr];(repeat (constructor;focus (clear hK';intros;simp_all;done)));(try (apply hK';clear hK' K')))|((with_reducible apply zz3);rfl;all_goals (intro h;try exact absurd h (by decide))))
   (with_reducible refine zw17 ?_ (fun K' hK'=>?_)
    · rfl
    simp only [WA,simprocAttr,g1,g2,za,zb,cond_true,cond_false]
    (repeat (constructor;focus (clear hK';intros;simp_all;done))))
   refine vt0 rfl ?_
   refine qb1 rfl (by simp only [WA,simprocAttr]) rfl rfl (ht) ?_
   simp only [WA,simprocAttr,inX,qc7,g3,za,zb,cond_true,cond_false]
   (repeat (constructor;focus (clear hK';intros;simp_all;done)))
   (try (apply hK';clear hK' K'))
   repeat' (first|(with_reducible apply zz1)|((with_reducible apply zz2);rfl;intro K' hK';simp only [WA,simprocAttr];(repeat (constructor;focus (clear hK';intros;simp_all;done)));(try (apply hK';clear hK' K')))|((with_reducible apply zz3);rfl;all_goals (intro h;try exact absurd h (by decide))))
   simp only [qf7,qd5,qa2,qd6,WA,simprocAttr]
end Go.Proofs.YtgecnlcbdbaneaaDoor
