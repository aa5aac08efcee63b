/- global's reader: whatever the text, reading ends; what is read is written no longer. -/
import Derived.Test.YtlnmkdbcdcknjaaDoorR7
set_option linter.unusedVariables false
set_option linter.unusedSimpArgs false
namespace Go.Proofs.YtlnmkdbcdcknjaaDoor.GG
open Go.RowKit Go.Sw

def goodG (s : ByteArray) (a : Nat) (R : Rg) : Prop := ∀ x b,R = .ok x b → a < b ∧ b ≤ s.size ∧ (wrG x).size + a ≤ b
theorem goodG.no {s : ByteArray} {a b : Nat} : goodG s a (.no b):=fun _ _ h=>by cases h
theorem goodG.ok {s : ByteArray} {a : Nat} {x : Gt} {b : Nat} (h1 : a < b) (h2 : b ≤ s.size) (h3 : (wrG x).size + a ≤ b) : goodG s a (.ok x b):=fun _ _ h=>by cases h;exact ⟨h1,h2,h3⟩
def sumG (L : List ByteArray) (K : List Gt) : Nat:=((List.zipWith itemB L (wrGs K)).map fun x=>x.size + 1).sum
theorem sumG_app (L : List ByteArray) (K : List Gt) (w : ByteArray) (x : Gt) (h : K.length = L.length) : sumG (L ++ [w]) (K ++ [x]) = sumG L K + (w.size + 1 + (wrG x).size + 1):=by
 unfold sumG
 rw [wrGs_map,wrGs_map,List.map_append,List.zipWith_append (by rw [List.length_map];exact h.symm),List.map_append,List.sum_append]
 have e : (⟨#[58]⟩ : ByteArray).size = 1:=rfl
 simp only [List.map_cons,List.map_nil,List.zipWith_cons_cons,List.zipWith_nil_left,List.sum_cons,List.sum_nil,itemB,ByteArray.size_append,e]
 omega
theorem pickG_size {fr to : ByteArray} {L : List ByteArray} {K : List Gt} (h : K.length = L.length) (h0 : L ≠ []) : (wrG (.mk 6 fr to 0 noB L K)).size = fr.size + to.size + 2 + sumG L K:=by
 rw [wg_pick]
 have e1 : (⟨#[62]⟩ : ByteArray).size = 1:=rfl
 have e2 : (⟨#[123]⟩ : ByteArray).size = 1:=rfl
 have e3 : (⟨#[125]⟩ : ByteArray).size = 1:=rfl
 have hne : List.zipWith itemB L (wrGs K) ≠ []:=by
  intro hz
  have:=congrArg List.length hz
  rw [List.length_zipWith,wrGs_map,List.length_map,h,Nat.min_self,List.length_nil] at this
  exact h0 (List.eq_nil_of_length_eq_zero this)
 have:=join_sum _ hne
 simp only [ByteArray.size_append,e1,e2,e3]
 unfold sumG
 omega
theorem name_pos {w : ByteArray} (h : isNameB w = true) : 0 < w.size:=(name_size h).2
theorem pB_eq (s : ByteArray) (a : Nat) : pB s a = wAt s a + (wOf s a).size:=rfl

section
variable (Γ : Gl) (s : ByteArray) (hs : s.size ≤ 2000)
def OneG (a : Nat) : Prop := ∃ R,RdG Γ s 22 [] a R ∧ goodG s a R
theorem clp_tot (a0 : Nat) (ih : ∀ c,a0 < c → c ≤ s.size → OneG Γ s c) (n : Nat) : ∀ (a : Nat) (L : List ByteArray) (K : List Gt),s.size - a ≤ n → a0 < a → a ≤ s.size → K.length = L.length →
 ∃ R e,CLp Γ s L K a R e ∧ ∀ L1 K1,R = some (L1,K1) → a < e ∧ e ≤ s.size ∧ K1.length = L1.length ∧ L1 ≠ [] ∧ sumG L1 K1 + a ≤ sumG L K + e:=by
 induction n with
 | zero =>
  intro a L K hn ha ha2 hKL
  obtain ⟨hk1,hk2⟩:=wAt_in s a ha2
  have hwz:=wOf_in s a ha2
  cases hb : okL L (wOf s a) with
  | false=>exact ⟨_,_,.bad L K a hb,fun _ _ h=>by cases h⟩
  | true =>
   cases hc : isB s (wAt s a + (wOf s a).size) 58 with
   | false=>exact ⟨_,_,.colon L K a hb hc,fun _ _ h=>by cases h⟩
   | true=>have:=isB_lt hc;have:=(wAt_in s _ hwz).1;omega
 | succ n IH =>
  intro a L K hn ha ha2 hKL
  obtain ⟨hk1,hk2⟩:=wAt_in s a ha2
  have hwz:=wOf_in s a ha2
  cases hb : okL L (wOf s a) with
  | false=>exact ⟨_,_,.bad L K a hb,fun _ _ h=>by cases h⟩
  | true =>
   cases hc : isB s (wAt s a + (wOf s a).size) 58 with
   | false=>exact ⟨_,_,.colon L K a hb hc,fun _ _ h=>by cases h⟩
   | true =>
    have hc5:=isB_lt hc
    have hc6:=(wAt_in s _ hwz).1
    obtain ⟨R1,r1,g1⟩:=ih (wAt s (wAt s a + (wOf s a).size) + 1) (by omega) (by omega)
    cases R1 with
    | no b=>exact ⟨_,_,.one L K a hb hc b r1,fun _ _ h=>by cases h⟩
    | ok x b =>
     obtain ⟨k1,k2,k3⟩:=g1 x b rfl
     have hbw:=wAt_in s b k2
     have hs2:=sumG_app L K (wOf s a) x hKL
     cases hk4 : isB s b 44 with
     | true =>
      have hel:=isB_lt hk4
      obtain ⟨R,e,t1,t2⟩:=IH (wAt s b + 1) (L ++ [wOf s a]) (K ++ [x]) (by omega) (by omega) (by omega) (by simp only [List.length_append,hKL,List.length_cons,List.length_nil])
      refine ⟨R,e,.more L K a hb hc x b (by omega) k2 r1 hk4 R e t1,fun L1 K1 h=>?_⟩
      obtain ⟨m1,m2,m3,m4,m5⟩:=t2 L1 K1 h
      rw [hs2] at m5
      exact ⟨by omega,m2,m3,m4,by omega⟩
     | false =>
      cases he : isB s b 125 with
      | false=>exact ⟨_,_,.fin L K a hb hc x b (by omega) k2 r1 hk4 he,fun _ _ h=>by cases h⟩
      | true =>
       have hel:=isB_lt he
       refine ⟨_,_,.done L K a hb hc x b (by omega) k2 r1 hk4 he,fun L1 K1 h=>?_⟩
       cases h
       refine ⟨by omega,by omega,by simp only [List.length_append,hKL,List.length_cons,List.length_nil],by simp,?_⟩
       rw [hs2]
       omega
include hs
theorem oneG_tot (hG : GD Tryd.prog Γ 0 22 (.slc (sortsL.map sD))) (a : Nat) (ha : a ≤ s.size) (ih : ∀ c,a < c → c ≤ s.size → OneG Γ s c) : OneG Γ s a:=by
 obtain ⟨hk1,hk2⟩:=wAt_in s a ha
 obtain ⟨p0,p1⟩:=pB_in s a ha
 have e0:=pB_eq s a
 cases hn : isNameB (wOf s a) with
 | false=>exact ⟨_,one_bad0 Γ s hs a ha hn,goodG.no⟩
 | true =>
 have hp:=name_pos hn
 obtain ⟨w0,w1⟩:=wAt_in s (pB s a) p1
 cases n1 : ((wOf s a).toList == ByteArray.toList ⟨#[101,110,100]⟩) with
 | true =>
  have hz : (wOf s a).size = 3:=by rw [tok_list (l:=[101,110,100]) n1];rfl
  have e : (⟨#[101,110,100]⟩ : ByteArray).size = 3:=rfl
  exact ⟨_,one_end Γ s hs a ha hn n1,goodG.ok (by omega) p1 (by rw [wg_end,e];omega)⟩
 | false =>
 cases n2 : ((wOf s a).toList == ByteArray.toList ⟨#[114,101,99]⟩) with
 | true =>
  have hz : (wOf s a).size = 3:=by rw [tok_list (l:=[114,101,99]) n2];rfl
  obtain ⟨q0,q1⟩:=pB_in s (pB s a) p1
  have e1:=pB_eq s (pB s a)
  cases n3 : isVarB (wOf s (pB s a)) with
  | false=>exact ⟨_,one_recbad Γ s hs a ha hn n1 n2 n3,goodG.no⟩
  | true =>
   have hv:=var_pos n3
   have hgap : pB s a < wAt s (pB s a):=by
    rcases Nat.lt_or_ge (pB s a) (wAt s (pB s a)) with h | h
    · exact h
    · have hb:=wOf_behind s a (by rw [← e0];omega)
      rw [← e0] at hb
      omega
   cases n4 : isB s (pB s (pB s a)) 46 with
   | false=>exact ⟨_,one_recdot Γ s hs a ha hn n1 n2 n3 n4,goodG.no⟩
   | true =>
    have hd:=isB_lt n4
    have hd2:=(wAt_in s _ q1).1
    obtain ⟨R,r1,g1⟩:=ih (wAt s (pB s (pB s a)) + 1) (by omega) (by omega)
    cases R with
    | no b=>exact ⟨_,one_recno Γ s hs a ha hn n1 n2 n3 n4 b r1,goodG.no⟩
    | ok x b =>
     obtain ⟨m1,m2,m3⟩:=g1 x b rfl
     refine ⟨_,one_recok Γ s hs a ha hn n1 n2 n3 n4 x b r1,goodG.ok (by omega) m2 ?_⟩
     have e46 : (⟨#[46]⟩ : ByteArray).size = 1:=rfl
     have e4 : (⟨#[114,101,99,32]⟩ : ByteArray).size = 4:=rfl
     rw [wg_bind]
     simp only [ByteArray.size_append,e46,e4]
     omega
 | false =>
 cases n3 : isB s (pB s a) 62 with
 | false=>exact ⟨_,one_var Γ s hs a ha hn n1 n2 n3,goodG.ok (by omega) w1 (by rw [wg_var];omega)⟩
 | true =>
 have hl3:=isB_lt n3
 cases n4 : isRoleB (wOf s a) with
 | false=>exact ⟨_,one_norole Γ s hs a ha hn n1 n2 n3 n4,goodG.no⟩
 | true =>
 have z4:=role_size n4
 have c3 : wAt s (pB s a) + 1 ≤ s.size:=by omega
 obtain ⟨u0,u1⟩:=pB_in s (wAt s (pB s a) + 1) c3
 have eu:=pB_eq s (wAt s (pB s a) + 1)
 have ew:=(wAt_in s _ c3).1
 cases n5 : otherB (wOf s a) (wOf s (wAt s (pB s a) + 1)) with
 | false=>exact ⟨_,one_other Γ s hs a ha hn n1 n2 n3 n4 n5,goodG.no⟩
 | true =>
 have z5 : (wOf s (wAt s (pB s a) + 1)).size = 1:=by
  unfold otherB at n5
  cases h : isRoleB (wOf s (wAt s (pB s a) + 1)) with
  | true=>exact role_size h
  | false=>rw [h] at n5;cases n5
 obtain ⟨v0,v1⟩:=wAt_in s _ u1
 cases n6 : isB s (pB s (wAt s (pB s a) + 1)) 123 with
 | true =>
  have hl6:=isB_lt n6
  obtain ⟨R,e,t1,t2⟩:=clp_tot Γ s a ih s.size (wAt s (pB s (wAt s (pB s a) + 1)) + 1) [] [] (by omega) (by omega) (by omega) rfl
  cases R with
  | none=>exact ⟨_,one_pickno Γ s hs a ha hn n1 n2 n3 n4 n5 n6 e t1,goodG.no⟩
  | some p =>
   obtain ⟨L1,K1⟩:=p
   obtain ⟨m1,m2,m3,m4,m5⟩:=t2 L1 K1 rfl
   have e00 : sumG [] [] = 0:=rfl
   rw [e00] at m5
   exact ⟨_,one_pickok Γ s hs a ha hn n1 n2 n3 n4 n5 n6 e L1 K1 t1,goodG.ok (by omega) m2 (by rw [pickG_size m3 m4];omega)⟩
 | false =>
 cases n7 : isB s (pB s (wAt s (pB s a) + 1)) 58 with
 | false=>exact ⟨_,one_colon Γ s hs a ha hn n1 n2 n3 n4 n5 n6 n7,goodG.no⟩
 | true =>
 have hl7:=isB_lt n7
 have c5 : wAt s (pB s (wAt s (pB s a) + 1)) + 1 ≤ s.size:=by omega
 obtain ⟨x0,x1⟩:=pB_in s _ c5
 have ex:=pB_eq s (wAt s (pB s (wAt s (pB s a) + 1)) + 1)
 have ey:=(wAt_in s _ c5).1
 cases n8 : decide (0 < idxS (wOf s (wAt s (pB s (wAt s (pB s a) + 1)) + 1)).toList sortsL 0) with
 | false=>exact ⟨_,one_sort Γ s hs a ha hn n1 n2 n3 n4 n5 n6 n7 hG n8,goodG.no⟩
 | true =>
 have hso:=sort_word (w:=wOf s (wAt s (pB s (wAt s (pB s a) + 1)) + 1)) (by have:=of_decide_eq_true n8;omega)
 cases n9 : isB s (pB s (wAt s (pB s (wAt s (pB s a) + 1)) + 1)) 46 with
 | false=>exact ⟨_,one_dot Γ s hs a ha hn n1 n2 n3 n4 n5 n6 n7 hG n8 n9,goodG.no⟩
 | true =>
 have hl9:=isB_lt n9
 have ez:=(wAt_in s _ x1).1
 obtain ⟨R,r1,g1⟩:=ih (wAt s (pB s (wAt s (pB s (wAt s (pB s a) + 1)) + 1)) + 1) (by omega) (by omega)
 cases R with
 | no b=>exact ⟨_,one_sendno Γ s hs a ha hn n1 n2 n3 n4 n5 n6 n7 hG n8 n9 b r1,goodG.no⟩
 | ok x b =>
  obtain ⟨m1,m2,m3⟩:=g1 x b rfl
  refine ⟨_,one_sendok Γ s hs a ha hn n1 n2 n3 n4 n5 n6 n7 hG n8 n9 x b r1,goodG.ok (by omega) m2 ?_⟩
  have e1 : (⟨#[62]⟩ : ByteArray).size = 1:=rfl
  have e2 : (⟨#[58]⟩ : ByteArray).size = 1:=rfl
  have e3 : (⟨#[46]⟩ : ByteArray).size = 1:=rfl
  rw [wg_send,hso.2.2]
  simp only [ByteArray.size_append,e1,e2,e3]
  omega
theorem rdG_tot (hG : GD Tryd.prog Γ 0 22 (.slc (sortsL.map sD))) (n : Nat) : ∀ a : Nat,s.size - a ≤ n → a ≤ s.size → OneG Γ s a:=by
 induction n with
 | zero=>intro a hn ha;exact oneG_tot Γ s hs hG a ha fun c h1 h2=>absurd hn (by omega)
 | succ n IH=>intro a hn ha;exact oneG_tot Γ s hs hG a ha fun c h1 h2=>IH c (by omega) h2
end
end Go.Proofs.YtlnmkdbcdcknjaaDoor.GG
