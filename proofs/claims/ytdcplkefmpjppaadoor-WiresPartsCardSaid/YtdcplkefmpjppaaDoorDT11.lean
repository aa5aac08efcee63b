/- types' reader: whatever the text, reading ends; what is read is written no longer. -/
import Derived.Test.YtdcplkefmpjppaaDoorDT9
import Derived.Test.YtdcplkefmpjppaaDoorDT10
set_option linter.unusedVariables false
set_option linter.unusedSimpArgs false
namespace Go.Proofs.YtdcplkefmpjppaaDoor.GG
open Go.RowKit Go.Sw

theorem tok_list {w : ByteArray} {l : List UInt8} (h : (w.toList == ByteArray.toList ⟨l.toArray⟩) = true) : w = ⟨l.toArray⟩:=by
 have h:=eq_of_beq h
 rw [Lib.toList_data,Lib.toList_data] at h
 obtain ⟨d⟩:=w
 have : d = l.toArray:=Array.toList_inj.1 h
 rw [this]
theorem list_back {u w : ByteArray} (h : u.toList = w.toList) : u = w:=by
 rw [Lib.toList_data,Lib.toList_data] at h
 obtain ⟨d⟩:=u
 obtain ⟨d'⟩:=w
 have : d = d':=Array.toList_inj.1 h
 rw [this]
theorem idx_word {w : ByteArray} : ∀ (l : List ByteArray) (j : Nat),(j : Int) ≤ idxS w.toList l j → ∃ m : Nat,idxS w.toList l j = ((j + m : Nat) : Int) ∧ l[m]? = some w
 | [],j,h=>by unfold idxS at h;omega
 | b :: l, j, h => by
  unfold idxS at h ⊢
  by_cases e : w.toList = b.toList
  · rw [if_pos e]
    exact ⟨0,rfl,by rw [list_back e];rfl⟩
  · rw [if_neg e] at h ⊢
    have h2 : ((j + 1 : Nat) : Int) ≤ idxS w.toList l (j + 1):=by
     rcases Int.lt_or_le (idxS w.toList l (j + 1)) ((j + 1 : Nat) : Int) with hlt | hge
     · exfalso
       have key : ∀ (l : List ByteArray) (i : Nat),idxS w.toList l i = -1 ∨ (i : Int) ≤ idxS w.toList l i:=by
        intro l
        induction l with
        | nil=>intro i;left;rfl
        | cons b l ih =>
         intro i
         unfold idxS
         split
         · right;omega
         · rcases ih (i + 1) with h | h
           · left;exact h
           · right;omega
       rcases key l (j + 1) with h3 | h3 <;> omega
     · exact hge
    obtain ⟨m,g1,g2⟩:=idx_word l (j + 1) h2
    exact ⟨m + 1,by rw [g1];omega,by simpa using g2⟩
theorem sort_word {w : ByteArray} (h : ¬ idxS w.toList sortsL 0 < 1) : 1 ≤ idxS w.toList sortsL 0 ∧ idxS w.toList sortsL 0 ≤ 3 ∧ sortW (idxS w.toList sortsL 0) = w:=by
 have h1:=(idx_in w.toList sortsL 0).2
 have hl : sortsL.length = 4:=rfl
 rw [hl] at h1
 obtain ⟨m,g1,g2⟩:=idx_word (w:=w) sortsL 0 (by omega)
 refine ⟨by omega,by omega,?_⟩
 rw [g1]
 unfold sortW
 simp only [Nat.zero_add,Int.toNat_natCast,List.getD,g2,Option.getD_some]
def isLet (b : UInt8) : Bool:=abcS.data.toList.contains b
theorem trimLS_list (r : ByteArray) : (trimLS r).data.toList = r.data.toList.dropWhile isLet:=by
 unfold trimLS packS Lib.trimLeftS
 simp only
 rfl
theorem drop_while_len (p : UInt8 → Bool) : ∀ l : List UInt8,(l.takeWhile p).length + (l.dropWhile p).length = l.length
 | []=>rfl
 | x :: l=>by
  by_cases h : p x = true
  · simp only [List.takeWhile_cons_of_pos h,List.dropWhile_cons_of_pos h,List.length_cons]
    have:=drop_while_len p l
    omega
  · simp only [List.takeWhile_cons_of_neg h,List.dropWhile_cons_of_neg h,List.length_nil]
    omega
theorem take_of_while (p : UInt8 → Bool) : ∀ l : List UInt8,l.take (l.takeWhile p).length = l.takeWhile p
 | []=>rfl
 | x :: l=>by
  by_cases h : p x = true
  · simp only [List.takeWhile_cons_of_pos h,List.length_cons,List.take_succ_cons,take_of_while p l]
  · simp only [List.takeWhile_cons_of_neg h,List.length_nil,List.take_zero]
theorem drop_of_while (p : UInt8 → Bool) : ∀ l : List UInt8,l.drop (l.takeWhile p).length = l.dropWhile p
 | []=>rfl
 | x :: l=>by
  by_cases h : p x = true
  · simp only [List.takeWhile_cons_of_pos h,List.dropWhile_cons_of_pos h,List.length_cons,List.drop_succ_cons,drop_of_while p l]
  · simp only [List.takeWhile_cons_of_neg h,List.dropWhile_cons_of_neg h,List.length_nil,List.drop_zero]
theorem wOf_list (s : ByteArray) (a : Nat) : (wOf s a).data.toList = (s.data.toList.drop (wAt s a)).takeWhile isLet:=by
 unfold wOf wordL
 rw [Lib.extract_data]
 have hd:=drop_list s (wAt s a)
 generalize s.extract (wAt s a) s.size = r at *
 have h1:=trimLS_list r
 have h2 : (trimLS r).size = (r.data.toList.dropWhile isLet).length:=by rw [← h1];rfl
 have h3:=drop_while_len isLet r.data.toList
 have h4 : r.size = r.data.toList.length:=rfl
 rw [← hd,h2,h4,List.drop_zero,show r.data.toList.length - (r.data.toList.dropWhile isLet).length - 0 = (r.data.toList.takeWhile isLet).length by omega]
 exact take_of_while isLet _
theorem wOf_size (s : ByteArray) (a : Nat) : (wOf s a).size = ((s.data.toList.drop (wAt s a)).takeWhile isLet).length:=by
 rw [← wOf_list];rfl
theorem while_idem (p : UInt8 → Bool) : ∀ l : List UInt8,(l.dropWhile p).takeWhile p = []
 | []=>rfl
 | x :: l=>by
  by_cases h : p x = true
  · rw [List.dropWhile_cons_of_pos h];exact while_idem p l
  · rw [List.dropWhile_cons_of_neg h,List.takeWhile_cons_of_neg h]
theorem wOf_behind (s : ByteArray) (a : Nat) (h : wAt s (wAt s a + (wOf s a).size) = wAt s a + (wOf s a).size) : (wOf s (wAt s a + (wOf s a).size)).size = 0:=by
 rw [wOf_size,h,wOf_size, ← List.drop_drop,drop_of_while,while_idem]
 rfl
theorem var_pos {w : ByteArray} (h : isVarB w = true) : 0 < w.size:=(name_size (var_name h)).2

def goodT (s : ByteArray) (a : Nat) (R : Rt) : Prop := ∀ x b,R = .ok x b → a < b ∧ b ≤ s.size ∧ (wrT x).size + a ≤ b
theorem goodT.no {s : ByteArray} {a b : Nat} : goodT s a (.no b):=fun _ _ h=>by cases h
theorem goodT.ok {s : ByteArray} {a : Nat} {x : Tp} {b : Nat} (h1 : a < b) (h2 : b ≤ s.size) (h3 : (wrT x).size + a ≤ b) : goodT s a (.ok x b):=fun _ _ h=>by cases h;exact ⟨h1,h2,h3⟩
def sumI (L : List ByteArray) (K : List Tp) : Nat:=((List.zipWith itemB L (wrTs K)).map fun x=>x.size + 1).sum
theorem sumI_app (L : List ByteArray) (K : List Tp) (w : ByteArray) (x : Tp) (h : K.length = L.length) : sumI (L ++ [w]) (K ++ [x]) = sumI L K + (w.size + 1 + (wrT x).size + 1):=by
 unfold sumI
 rw [wrTs_map,wrTs_map,List.map_append,List.zipWith_append (by rw [List.length_map];exact h.symm),List.map_append,List.sum_append]
 have e : (⟨#[58]⟩ : ByteArray).size = 1:=rfl
 simp only [List.map_cons,List.map_nil,List.zipWith_cons_cons,List.zipWith_nil_left,List.sum_cons,List.sum_nil,itemB,ByteArray.size_append,e]
 omega
theorem join_sum (xs : List ByteArray) (h : xs ≠ []) : (joinB xs).size + 1 = (xs.map fun x=>x.size + 1).sum:=by
 unfold joinB
 rw [pack_size]
 cases xs with
 | nil=>exact absurd rfl h
 | cons x r =>
  rw [List.map_cons,Lib.join_cons,List.length_append,joinTail_len,List.map_map,List.map_cons,List.sum_cons]
  have e : ((fun x : List UInt8=>x.length + 1) ∘ fun s : ByteArray=>s.data.toList) = fun s : ByteArray=>s.size + 1:=by funext s;rfl
  rw [e]
  have : x.data.toList.length = x.size:=rfl
  omega
theorem pick_size {k : Int} {L : List ByteArray} {K : List Tp} (hk : k = 6 ∨ k = 7) (h : K.length = L.length) (h0 : L ≠ []) : (wrT (.mk k 0 noB L K)).size = 2 + sumI L K:=by
 rw [wr_pick hk]
 have q : (if k = 6 then (⟨#[43,123]⟩ : ByteArray) else ⟨#[38,123]⟩).size = 2:=by split <;> rfl
 have e125 : (⟨#[125]⟩ : ByteArray).size = 1:=rfl
 have hne : List.zipWith itemB L (wrTs K) ≠ []:=by
  intro hz
  have:=congrArg List.length hz
  rw [List.length_zipWith,wrTs_map,List.length_map,h,Nat.min_self,List.length_nil] at this
  exact h0 (List.eq_nil_of_length_eq_zero this)
 have:=join_sum _ hne
 simp only [ByteArray.size_append,q,e125]
 unfold sumI
 omega

section
variable (Γ : Gl) (s : ByteArray) (hs : s.size ≤ 2000)
def OneT (a : Nat) : Prop := ∃ R,RdT Γ s 122 [] a R ∧ goodT s a R
include hs
theorem passed_tot (hG : GD Tryd.prog Γ 1 22 (.slc (sortsL.map sD))) (v c : Int) (hv : v = 2 ∨ v = 3) (hc : c = 4 ∨ c = 5) (a : Nat) (ha : a < s.size) (ih : ∀ c,a < c → c ≤ s.size → OneT Γ s c) : ∃ R,RdT Γ s 137 [.d (iD v),.d (iD c)] a R ∧ goodT s a R:=by
 obtain ⟨hq1,hq2⟩:=wAt_in s (a + 1) (by omega)
 have hwz:=wOf_in s (a + 1) (by omega)
 have e46 : (⟨#[46]⟩ : ByteArray).size = 1:=rfl
 have e2 : (⟨#[125,46]⟩ : ByteArray).size = 2:=rfl
 cases hq : isB s (a + 1) 123 with
 | true =>
  have hlt:=isB_lt hq
  obtain ⟨R1,r1,g1⟩:=ih (wAt s (a + 1) + 1) (by omega) (by omega)
  cases R1 with
  | no b=>exact ⟨_,passed_no1 Γ s hs v c a ha hq b r1,goodT.no⟩
  | ok x b =>
   obtain ⟨k1,k2,k3⟩:=g1 x b rfl
   have hb:=wAt_in s b k2
   cases hb2 : isB s b 125 with
   | false=>exact ⟨_,passed_no2 Γ s hs v c a ha hq x b k2 r1 hb2,goodT.no⟩
   | true =>
    have hb4:=isB_lt hb2
    have hc2:=wAt_in s (wAt s b + 1) (by omega)
    cases hb3 : isB s (wAt s b + 1) 46 with
    | false=>exact ⟨_,passed_no3 Γ s hs v c a ha hq x b k2 r1 hb2 hb3,goodT.no⟩
    | true =>
     have hb5:=isB_lt hb3
     obtain ⟨R2,r2,g2⟩:=ih (wAt s (wAt s b + 1) + 1) (by omega) (by omega)
     cases R2 with
     | no d=>exact ⟨_,passed_no4 Γ s hs v c a ha hq x b k2 r1 hb2 hb3 d r2,goodT.no⟩
     | ok y d =>
      obtain ⟨m1,m2,m3⟩:=g2 y d rfl
      refine ⟨_,passed_ok Γ s hs v c a ha hq x b k2 r1 hb2 hb3 y d r2,goodT.ok (by omega) m2 ?_⟩
      have q : (if c = 4 then (⟨#[33,123]⟩ : ByteArray) else ⟨#[63,123]⟩).size = 2:=by split <;> rfl
      rw [wr_give hc]
      simp only [ByteArray.size_append,q,e2]
      omega
 | false =>
  by_cases h1 : idxS (wOf s (a + 1)).toList sortsL 0 < 1
  · exact ⟨_,passed_no5 Γ s hs v c a ha hG hq h1,goodT.no⟩
  have hd:=wAt_in s (wAt s (a + 1) + (wOf s (a + 1)).size) hwz
  cases hb3 : isB s (wAt s (a + 1) + (wOf s (a + 1)).size) 46 with
  | false=>exact ⟨_,passed_no6 Γ s hs v c a ha hG hq h1 hb3,goodT.no⟩
  | true =>
   have hb5:=isB_lt hb3
   obtain ⟨R2,r2,g2⟩:=ih (wAt s (wAt s (a + 1) + (wOf s (a + 1)).size) + 1) (by omega) (by omega)
   cases R2 with
   | no d=>exact ⟨_,passed_no7 Γ s hs v c a ha hG hq h1 hb3 d r2,goodT.no⟩
   | ok y d =>
    obtain ⟨m1,m2,m3⟩:=g2 y d rfl
    refine ⟨_,passed_ok8 Γ s hs v c a ha hG hq h1 hb3 y d r2,goodT.ok (by omega) m2 ?_⟩
    have q : (if v = 2 then (⟨#[33]⟩ : ByteArray) else ⟨#[63]⟩).size = 1:=by split <;> rfl
    rw [wr_pass hv,(sort_word h1).2.2]
    simp only [ByteArray.size_append,q,e46]
    omega
omit hs in
theorem cloop_tot (kd : Int) (hk : kd = 6 ∨ kd = 7) (a0 : Nat) (ih : ∀ c,a0 < c → c ≤ s.size → OneT Γ s c) (n : Nat) : ∀ (a : Nat) (L : List ByteArray) (K : List Tp),s.size - a ≤ n → a0 < a → a ≤ s.size → K.length = L.length →
 ∃ R,CLoop Γ s kd L K a R ∧ ∀ x b,R = .ok x b → a < b ∧ b ≤ s.size ∧ (wrT x).size + a ≤ 2 + sumI L K + b:=by
 induction n with
 | zero =>
  intro a L K hn ha ha2 hKL
  obtain ⟨hk1,hk2⟩:=wAt_in s a ha2
  have hwz:=wOf_in s a ha2
  cases hb : badL L (wOf s a) with
  | true=>exact ⟨_,.bad L K a hb,fun _ _ h=>by cases h⟩
  | false =>
   cases hc : isB s (wAt s a + (wOf s a).size) 58 with
   | false=>exact ⟨_,.colon L K a hb hc,fun _ _ h=>by cases h⟩
   | true=>have:=isB_lt hc;have:=(wAt_in s _ hwz).1;omega
 | succ n IH =>
  intro a L K hn ha ha2 hKL
  obtain ⟨hk1,hk2⟩:=wAt_in s a ha2
  have hwz:=wOf_in s a ha2
  cases hb : badL L (wOf s a) with
  | true=>exact ⟨_,.bad L K a hb,fun _ _ h=>by cases h⟩
  | false =>
   cases hc : isB s (wAt s a + (wOf s a).size) 58 with
   | false=>exact ⟨_,.colon L K a hb hc,fun _ _ h=>by cases h⟩
   | true =>
    have hc5:=isB_lt hc
    have hc6:=(wAt_in s _ hwz).1
    obtain ⟨R1,r1,g1⟩:=ih (wAt s (wAt s a + (wOf s a).size) + 1) (by omega) (by omega)
    cases R1 with
    | no b=>exact ⟨_,.one L K a hb hc b r1,fun _ _ h=>by cases h⟩
    | ok x b =>
     obtain ⟨k1,k2,k3⟩:=g1 x b rfl
     have hbw:=wAt_in s b k2
     have hs2:=sumI_app L K (wOf s a) x hKL
     cases he : isB s b 125 with
     | true =>
      have hel:=isB_lt he
      refine ⟨_,.done L K a hb hc x b (by omega) k2 r1 he,fun y d h=>?_⟩
      cases h
      refine ⟨by omega,by omega,?_⟩
      rw [pick_size hk (by simp only [List.length_append,hKL,List.length_cons,List.length_nil]) (by simp),hs2]
      omega
     | false =>
      cases hk4 : isB s b 44 with
      | false=>exact ⟨_,.comma L K a hb hc x b (by omega) k2 r1 he hk4,fun _ _ h=>by cases h⟩
      | true =>
       have hel:=isB_lt hk4
       obtain ⟨R,t1,t2⟩:=IH (wAt s b + 1) (L ++ [wOf s a]) (K ++ [x]) (by omega) (by omega) (by omega) (by simp only [List.length_append,hKL,List.length_cons,List.length_nil])
       refine ⟨R,.more L K a hb hc x b (by omega) k2 r1 he hk4 R t1,fun y d h=>?_⟩
       obtain ⟨m1,m2,m3⟩:=t2 y d h
       rw [hs2] at m3
       exact ⟨by omega,m2,by omega⟩
theorem choice_tot (kd : Int) (hk : kd = 6 ∨ kd = 7) (a : Nat) (ha : a < s.size) (ih : ∀ c,a < c → c ≤ s.size → OneT Γ s c) : ∃ R,RdT Γ s 138 [.d (iD kd)] a R ∧ goodT s a R:=by
 have hq1:=wAt_in s (a + 1) (by omega)
 cases hq : isB s (a + 1) 123 with
 | false=>exact ⟨_,choice_open Γ s hs kd a ha hq,goodT.no⟩
 | true =>
  have hlt:=isB_lt hq
  obtain ⟨R,t1,t2⟩:=cloop_tot Γ s kd hk a ih s.size (wAt s (a + 1) + 1) [] [] (by omega) (by omega) (by omega) rfl
  cases R with
  | no e=>exact ⟨_,choice_no Γ s hs kd a ha hq e t1,goodT.no⟩
  | ok z e =>
   obtain ⟨m1,m2,m3⟩:=t2 z e rfl
   have e0 : sumI [] [] = 0:=rfl
   rw [e0] at m3
   exact ⟨_,choice_ok Γ s hs kd a ha hq z e t1,goodT.ok (by omega) m2 (by omega)⟩
theorem one_tot (hG : GD Tryd.prog Γ 1 22 (.slc (sortsL.map sD))) (a : Nat) (ha : a ≤ s.size) (ih : ∀ c,a < c → c ≤ s.size → OneT Γ s c) : OneT Γ s a:=by
 obtain ⟨hk1,hk2⟩:=wAt_in s a ha
 have hwz:=wOf_in s a ha
 have up : ∀ {f : FuncId} {more : List SV} {R : Rt},goodT s (wAt s a) R → goodT s a R:=fun {f more R} g x b h=>by
  obtain ⟨m1,m2,m3⟩:=g x b h
  exact ⟨by omega,m2,by omega⟩
 cases n1 : ((wOf s a).toList == ByteArray.toList ⟨#[101,110,100]⟩) with
 | true =>
  have hz : (wOf s a).size = 3:=by rw [tok_list (l:=[101,110,100]) n1];rfl
  have e : (⟨#[101,110,100]⟩ : ByteArray).size = 3:=rfl
  exact ⟨_,one_end Γ s hs a ha n1,goodT.ok (by omega) (by omega) (by rw [wr_end,e];omega)⟩
 | false =>
  cases n2 : ((wOf s a).toList == ByteArray.toList ⟨#[114,101,99]⟩) with
  | true =>
   have hz : (wOf s a).size = 3:=by rw [tok_list (l:=[114,101,99]) n2];rfl
   have h3 : wAt s a + 3 ≤ s.size:=by omega
   have hj:=wAt_in s (wAt s a + 3) h3
   have hjz:=wOf_in s (wAt s a + 3) h3
   cases n3 : isVarB (wOf s (wAt s a + 3)) with
   | false=>exact ⟨_,one_badname Γ s hs a ha n1 n2 h3 n3,goodT.no⟩
   | true =>
    have hp:=var_pos n3
    have hgap : wAt s a + 3 < wAt s (wAt s a + 3):=by
     rcases Nat.lt_or_ge (wAt s a + 3) (wAt s (wAt s a + 3)) with h | h
     · exact h
     · have hb:=wOf_behind s a (by rw [hz];omega)
       rw [hz] at hb
       omega
    cases n4 : isB s (wAt s (wAt s a + 3) + (wOf s (wAt s a + 3)).size) 46 with
    | false=>exact ⟨_,one_nodot Γ s hs a ha n1 n2 h3 n3 n4,goodT.no⟩
    | true =>
     have hd:=isB_lt n4
     have hd2:=(wAt_in s _ hjz).1
     obtain ⟨R,r1,g1⟩:=ih (wAt s (wAt s (wAt s a + 3) + (wOf s (wAt s a + 3)).size) + 1) (by omega) (by omega)
     cases R with
     | no b=>exact ⟨_,one_rec_no Γ s hs a ha n1 n2 h3 n3 n4 b r1,goodT.no⟩
     | ok x b =>
      obtain ⟨m1,m2,m3⟩:=g1 x b rfl
      refine ⟨_,one_rec_ok Γ s hs a ha n1 n2 h3 n3 n4 x b r1,goodT.ok (by omega) m2 ?_⟩
      have e46 : (⟨#[46]⟩ : ByteArray).size = 1:=rfl
      have e4 : (⟨#[114,101,99,32]⟩ : ByteArray).size = 4:=rfl
      rw [wr_bind]
      simp only [ByteArray.size_append,e46,e4]
      omega
  | false =>
   cases n3 : isVarB (wOf s a) with
   | true =>
    have hp:=var_pos n3
    exact ⟨_,one_var Γ s hs a ha n1 n2 n3,goodT.ok (by omega) hwz (by rw [wr_var];omega)⟩
   | false =>
    cases n5 : ((wOf s a).toList == ByteArray.toList ⟨#[]⟩) with
    | false=>exact ⟨_,one_bad Γ s hs a ha n1 n2 n3 n5,goodT.no⟩
    | true =>
     have ih' : ∀ c,wAt s a < c → c ≤ s.size → OneT Γ s c:=fun c h1 h2=>ih c (by omega) h2
     cases i33 : isB s a 33 with
     | true =>
      obtain ⟨R,r1,g1⟩:=passed_tot Γ s hs hG 2 4 (.inl rfl) (.inl rfl) (wAt s a) (isB_lt i33) ih'
      exact ⟨R,one_sign33 Γ s hs a ha n1 n2 n3 n5 i33 R r1,up (f:=0) (more:=[]) g1⟩
     | false =>
      cases i63 : isB s a 63 with
      | true =>
       obtain ⟨R,r1,g1⟩:=passed_tot Γ s hs hG 3 5 (.inr rfl) (.inr rfl) (wAt s a) (isB_lt i63) ih'
       exact ⟨R,one_sign63 Γ s hs a ha n1 n2 n3 n5 i33 i63 R r1,up (f:=0) (more:=[]) g1⟩
      | false =>
       cases i43 : isB s a 43 with
       | true =>
        obtain ⟨R,r1,g1⟩:=choice_tot Γ s hs 6 (.inl rfl) (wAt s a) (isB_lt i43) ih'
        exact ⟨R,one_sign43 Γ s hs a ha n1 n2 n3 n5 i33 i63 i43 R r1,up (f:=0) (more:=[]) g1⟩
       | false =>
        cases i38 : isB s a 38 with
        | true =>
         obtain ⟨R,r1,g1⟩:=choice_tot Γ s hs 7 (.inr rfl) (wAt s a) (isB_lt i38) ih'
         exact ⟨R,one_sign38 Γ s hs a ha n1 n2 n3 n5 i33 i63 i43 i38 R r1,up (f:=0) (more:=[]) g1⟩
        | false=>exact ⟨_,one_none Γ s hs a ha n1 n2 n3 n5 i33 i63 i43 i38,goodT.no⟩
theorem rd_tot (hG : GD Tryd.prog Γ 1 22 (.slc (sortsL.map sD))) (n : Nat) : ∀ a : Nat,s.size - a ≤ n → a ≤ s.size → OneT Γ s a:=by
 induction n with
 | zero=>intro a hn ha;exact one_tot Γ s hs hG a ha fun c h1 h2=>absurd hn (by omega)
 | succ n IH=>intro a hn ha;exact one_tot Γ s hs hG a ha fun c h1 h2=>IH c (by omega) h2
end
end Go.Proofs.YtdcplkefmpjppaaDoor.GG
