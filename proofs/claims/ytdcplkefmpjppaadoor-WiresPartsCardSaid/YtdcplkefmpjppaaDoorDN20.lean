/- wires: what is written is read back, and the other way round; plain (printed by mkn20.py). -/
-- TYPESE
import Derived.Test.YtdcplkefmpjppaaDoorDN17
import Derived.Test.YtdcplkefmpjppaaDoorDN18
import Derived.Test.YtdcplkefmpjppaaDoorDN19
set_option linter.unusedVariables false
set_option linter.unusedSimpArgs false
namespace Go.Proofs.YtdcplkefmpjppaaDoor.GG
open Go.RowKit Go.Sw

def bareE (x : Ev) : Ev:=if x.kd = 2 ∨ x.kd = 3 then ⟨x.kd,x.vs,x.vn,x.vS,tp0,noB⟩ else if x.kd = 4 ∨ x.kd = 5 then ⟨x.kd,0,0,noB,x.c,noB⟩ else ⟨x.kd,0,0,noB,tp0,x.lab⟩
def Rng (x : Ev) : Prop := -9223372036854775808 ≤ x.vn ∧ x.vn < 9223372036854775808
theorem dropU {s : ByteArray} {a : Nat} (h : a < s.size) : s.data.toList.drop a = UInt8.ofNat (atS s a) :: s.data.toList.drop (a + 1):=by
 have hl : a < s.data.toList.length:=by simpa using h
 rw [atS_u8,List.drop_eq_getElem_cons hl]
 congr 1
 rw [List.getD_eq_getElem?_getD,List.getElem?_eq_getElem hl];rfl
theorem at_drop {s : ByteArray} {a : Nat} {c : UInt8} {tl : List UInt8} (h : s.data.toList.drop a = c :: tl) : a < s.size ∧ atS s a = c.toNat ∧ s.data.toList.drop (a + 1) = tl:=by
 have hlt : a < s.size:=by
  rcases Nat.lt_or_ge a s.size with h1 | h1
  · exact h1
  · rw [List.drop_of_length_le (by simpa using h1)] at h;cases h
 have h2:=dropU hlt
 rw [h] at h2
 injection h2 with h3 h4
 refine ⟨hlt,?_,h4.symm⟩
 rw [h3,u8_toNat (atS_lt s a)]
theorem emB_noB : emB noB = true:=by decide +kernel
theorem u64_size {s : ByteArray} (hs : s.size ≤ 140737488355328) : s.size < 2 ^ 63:=by omega
theorem wz_int (f : ByteArray → Bool) (k n : Int) (hk : k = 2 ∨ k = 3) : wchk f k 1 n noB tp0 noB = 0:=by
 unfold wchk vchk;rw [if_pos hk,if_pos rfl,emB_noB];rfl
theorem wz_tru (f : ByteArray → Bool) (k n : Int) (hk : k = 2 ∨ k = 3) (hn : n = 0 ∨ n = 1) : wchk f k 2 n noB tp0 noB = 0:=by
 unfold wchk vchk
 rw [if_pos hk,if_neg (by decide),if_pos rfl,emB_noB,if_pos rfl]
 rcases hn with rfl | rfl <;> rfl
theorem wz_txt {f : ByteArray → Bool} {k : Int} (hk : k = 2 ∨ k = 3) {w : ByteArray} {c : Tp} {lab : ByteArray} (h : wchk f k 3 0 w c lab = 0) : wchk f k 3 0 w tp0 noB = 0:=by
 unfold wchk at h ⊢
 rw [if_pos hk] at h ⊢
 exact h
theorem drop_add {s : ByteArray} {a : Nat} {u v : List UInt8} (h : s.data.toList.drop a = u ++ v) : s.data.toList.drop (a + u.length) = v:=by
 rw [← List.drop_drop,h,List.drop_left]
theorem rd_enc (Γ : Gl) {f : ByteArray → Bool} (hf : VSok Γ f) (hG : GD Tryd.prog Γ 1 22 (.slc (sortsL.map sD))) (s : ByteArray) (hs : s.size ≤ 140737488355328) (x : Ev) (hc : evChk f x = 0) (hr : Rng x) (a : Nat) (rest : List UInt8) (hd : s.data.toList.drop a = encE x ++ rest) :
 RdE Γ s a (.ok (bareE x) (a + (encE x).length)):=by
 have hs63:=u64_size hs
 obtain ⟨kd,vs,vn,vS,c,lab⟩:=x
 have hz:=zz_write hr.1 hr.2
 unfold evChk at hc
 rcases chk_kd hc with ⟨hk,hv⟩ | ⟨hk,ht⟩ | ⟨hk,hn⟩
 · simp only at hk hv hc hz
   rcases hk with rfl | rfl
   · rcases hv with ⟨rfl,rfl⟩ | ⟨rfl,rfl,hb⟩ | ⟨rfl,rfl,h1,h2⟩
     · have he : encE ⟨2,1,vn,noB,c,lab⟩ = b8 2 :: b8 1 :: numB (zz vn):=by unfold encE;simp
       have hb : bareE ⟨2,1,vn,noB,c,lab⟩ = ⟨2,1,unzz (zz vn),noB,tp0,noB⟩:=by unfold bareE;rw [unzz_zz];simp
       rw [he] at hd ⊢
       obtain ⟨g1,g2,g3⟩:=at_drop (by simpa using hd)
       obtain ⟨g4,g5,g6⟩:=at_drop g3
       have h:=numO_back (s:=s) (fr:=a + 2) 10 0 0 (a + 2) (zz vn) rest (by omega) (by omega) (by omega) (by have:=hz.2;omega) g6
       simp only [Nat.pow_zero,Nat.mul_one,Nat.zero_add] at h
       rw [hb]
       have len_e : a + (b8 2 :: b8 1 :: numB (zz vn)).length = a + 2 + (numB (zz vn)).length:=by simp only [List.length_cons];omega
       have:=ev_num2 Γ s hs a hf g1 g2 g4 g5 _ _ h
       rwa [len_e]
     · have he : encE ⟨2,2,vn,noB,c,lab⟩ = b8 2 :: b8 2 :: [b8 vn]:=by unfold encE;simp
       have hb2 : bareE ⟨2,2,vn,noB,c,lab⟩ = ⟨2,2,vn,noB,tp0,noB⟩:=by unfold bareE;simp
       rw [he] at hd ⊢
       obtain ⟨g1,g2,g3⟩:=at_drop (by simpa using hd)
       obtain ⟨g4,g5,g6⟩:=at_drop g3
       obtain ⟨g7,g8,g9⟩:=at_drop g6
       have hv : ((atS s (a + 2) : Nat) : Int) = vn:=by rw [show atS s (a + 2) = (b8 vn).toNat from g8];rcases hb with rfl | rfl <;> rfl
       have:=ev_tru2 Γ s hs a hf g1 g2 g4 g5 g7 (by rw [hv];exact wz_tru f 2 vn (by decide) hb)
       rw [hv] at this
       rw [hb2]
       exact this
     · have he : encE ⟨2,3,0,vS,c,lab⟩ = b8 2 :: b8 3 :: txtB vS:=by unfold encE;simp
       have hb2 : bareE ⟨2,3,0,vS,c,lab⟩ = ⟨2,3,0,vS,tp0,noB⟩:=by unfold bareE;simp
       rw [he] at hd ⊢
       obtain ⟨g1,g2,g3⟩:=at_drop (by simpa using hd)
       obtain ⟨g4,g5,g6⟩:=at_drop g3
       have h:=txtO_back hs63 g6
       rw [hb2]
       have len_e : a + (b8 2 :: b8 3 :: txtB vS).length = a + 2 + (txtB vS).length:=by simp only [List.length_cons];omega
       have:=ev_txt2 Γ s hs a hf g1 g2 g4 g5 _ _ h (wz_txt (by decide) hc)
       rwa [len_e]
   · rcases hv with ⟨rfl,rfl⟩ | ⟨rfl,rfl,hb⟩ | ⟨rfl,rfl,h1,h2⟩
     · have he : encE ⟨3,1,vn,noB,c,lab⟩ = b8 3 :: b8 1 :: numB (zz vn):=by unfold encE;simp
       have hb : bareE ⟨3,1,vn,noB,c,lab⟩ = ⟨3,1,unzz (zz vn),noB,tp0,noB⟩:=by unfold bareE;rw [unzz_zz];simp
       rw [he] at hd ⊢
       obtain ⟨g1,g2,g3⟩:=at_drop (by simpa using hd)
       obtain ⟨g4,g5,g6⟩:=at_drop g3
       have h:=numO_back (s:=s) (fr:=a + 2) 10 0 0 (a + 2) (zz vn) rest (by omega) (by omega) (by omega) (by have:=hz.2;omega) g6
       simp only [Nat.pow_zero,Nat.mul_one,Nat.zero_add] at h
       rw [hb]
       have len_e : a + (b8 3 :: b8 1 :: numB (zz vn)).length = a + 2 + (numB (zz vn)).length:=by simp only [List.length_cons];omega
       have:=ev_num3 Γ s hs a hf g1 g2 g4 g5 _ _ h
       rwa [len_e]
     · have he : encE ⟨3,2,vn,noB,c,lab⟩ = b8 3 :: b8 2 :: [b8 vn]:=by unfold encE;simp
       have hb2 : bareE ⟨3,2,vn,noB,c,lab⟩ = ⟨3,2,vn,noB,tp0,noB⟩:=by unfold bareE;simp
       rw [he] at hd ⊢
       obtain ⟨g1,g2,g3⟩:=at_drop (by simpa using hd)
       obtain ⟨g4,g5,g6⟩:=at_drop g3
       obtain ⟨g7,g8,g9⟩:=at_drop g6
       have hv : ((atS s (a + 2) : Nat) : Int) = vn:=by rw [show atS s (a + 2) = (b8 vn).toNat from g8];rcases hb with rfl | rfl <;> rfl
       have:=ev_tru3 Γ s hs a hf g1 g2 g4 g5 g7 (by rw [hv];exact wz_tru f 3 vn (by decide) hb)
       rw [hv] at this
       rw [hb2]
       exact this
     · have he : encE ⟨3,3,0,vS,c,lab⟩ = b8 3 :: b8 3 :: txtB vS:=by unfold encE;simp
       have hb2 : bareE ⟨3,3,0,vS,c,lab⟩ = ⟨3,3,0,vS,tp0,noB⟩:=by unfold bareE;simp
       rw [he] at hd ⊢
       obtain ⟨g1,g2,g3⟩:=at_drop (by simpa using hd)
       obtain ⟨g4,g5,g6⟩:=at_drop g3
       have h:=txtO_back hs63 g6
       rw [hb2]
       have len_e : a + (b8 3 :: b8 3 :: txtB vS).length = a + 2 + (txtB vS).length:=by simp only [List.length_cons];omega
       have:=ev_txt3 Γ s hs a hf g1 g2 g4 g5 _ _ h (wz_txt (by decide) hc)
       rwa [len_e]
 · simp only at hk ht
   rcases hk with rfl | rfl
   · have he : encE ⟨4,vs,vn,vS,c,lab⟩ = b8 4 :: txtB (wrtT c):=by unfold encE;simp
     have hb2 : bareE ⟨4,vs,vn,vS,c,lab⟩ = ⟨4,0,0,noB,c,noB⟩:=by unfold bareE;simp
     rw [he] at hd ⊢
     obtain ⟨g1,g2,g3⟩:=at_drop (by simpa using hd)
     have h:=txtO_back hs63 g3
     rw [hb2]
     have len_e : a + (b8 4 :: txtB (wrtT c)).length = a + 1 + (txtB (wrtT c)).length:=by simp only [List.length_cons];omega
     have hp:=parse_back Γ (wrtT c) (by have:=wrt_size ht;omega) hG 0 ht (by rw [fl_zero,wrtT,if_pos ht])
     have:=ev_car4 Γ s hs a hf hG g1 g2 _ _ h c 0 0 hp rfl ht rfl
     rwa [len_e]
   · have he : encE ⟨5,vs,vn,vS,c,lab⟩ = b8 5 :: txtB (wrtT c):=by unfold encE;simp
     have hb2 : bareE ⟨5,vs,vn,vS,c,lab⟩ = ⟨5,0,0,noB,c,noB⟩:=by unfold bareE;simp
     rw [he] at hd ⊢
     obtain ⟨g1,g2,g3⟩:=at_drop (by simpa using hd)
     have h:=txtO_back hs63 g3
     rw [hb2]
     have len_e : a + (b8 5 :: txtB (wrtT c)).length = a + 1 + (txtB (wrtT c)).length:=by simp only [List.length_cons];omega
     have hp:=parse_back Γ (wrtT c) (by have:=wrt_size ht;omega) hG 0 ht (by rw [fl_zero,wrtT,if_pos ht])
     have:=ev_car5 Γ s hs a hf hG g1 g2 _ _ h c 0 0 hp rfl ht rfl
     rwa [len_e]
 · simp only at hk hn
   rcases hk with rfl | rfl
   · have he : encE ⟨6,vs,vn,vS,c,lab⟩ = b8 6 :: txtB lab:=by unfold encE;simp
     have hb2 : bareE ⟨6,vs,vn,vS,c,lab⟩ = ⟨6,0,0,noB,tp0,lab⟩:=by unfold bareE;simp
     rw [he] at hd ⊢
     obtain ⟨g1,g2,g3⟩:=at_drop (by simpa using hd)
     have h:=txtO_back hs63 g3
     rw [hb2]
     have len_e : a + (b8 6 :: txtB lab).length = a + 1 + (txtB lab).length:=by simp only [List.length_cons];omega
     have:=ev_lab6 Γ s hs a hf g1 g2 _ _ h hn
     rwa [len_e]
   · have he : encE ⟨7,vs,vn,vS,c,lab⟩ = b8 7 :: txtB lab:=by unfold encE;simp
     have hb2 : bareE ⟨7,vs,vn,vS,c,lab⟩ = ⟨7,0,0,noB,tp0,lab⟩:=by unfold bareE;simp
     rw [he] at hd ⊢
     obtain ⟨g1,g2,g3⟩:=at_drop (by simpa using hd)
     have h:=txtO_back hs63 g3
     rw [hb2]
     have len_e : a + (b8 7 :: txtB lab).length = a + 1 + (txtB lab).length:=by simp only [List.length_cons];omega
     have:=ev_lab7 Γ s hs a hf g1 g2 _ _ h hn
     rwa [len_e]
def GoodE (f : ByteArray → Bool) (s : ByteArray) (a : Nat) : Rv → Prop
 | .ok x b=>a < b ∧ b ≤ s.size ∧ evChk f x = 0 ∧ Rng x ∧ bareE x = x ∧ s.data.toList.drop a = encE x ++ s.data.toList.drop b
 | .no p b=>p ≤ s.size
theorem unzz_rng {m : Nat} (h : m < 2 ^ 64) : -9223372036854775808 ≤ unzz m ∧ unzz m < 9223372036854775808:=by
 unfold unzz;split <;> omega
theorem rd_all2 (Γ : Gl) {f : ByteArray → Bool} (hf : VSok Γ f) (s : ByteArray) (hs : s.size ≤ 140737488355328) (a : Nat) (ha : a < s.size) (hk : atS s a = 2) : ∃ o,RdE Γ s a o ∧ GoodE f s a o:=by
 have hs63:=u64_size hs
 have hd:=dropU ha
 rw [hk] at hd
 by_cases h1 : a + 1 = s.size
 · exact ⟨_,ev_end2 Γ s hs a ha hk h1,by show a + 1 ≤ s.size;omega⟩
 have h1 : a + 1 < s.size:=by omega
 have hd1:=dropU h1
 by_cases hv : atS s (a + 1) = 0 ∨ 3 < atS s (a + 1)
 · exact ⟨_,ev_bad2 Γ s hs a ha hk h1 hv,by show a + 1 ≤ s.size;omega⟩
 have hv : atS s (a + 1) = 1 ∨ atS s (a + 1) = 2 ∨ atS s (a + 1) = 3:=by omega
 rcases hv with hv | hv | hv
 · rw [hv] at hd1
   cases hR : numO s (a + 2) 10 0 0 (a + 2) with
   | no p b=>exact ⟨_,ev_num2_no Γ s hs a ha hk h1 hv p b hR,(numO_no (by omega) 10 0 0 (a + 2) p b (by omega) hR).1⟩
   | ok n b =>
    obtain ⟨g1,g2,g3,q,rfl, -,g4⟩:=numO_ok 10 0 0 (a + 2) n b (by omega) (by omega) hR
    simp only [Nat.pow_zero,Nat.mul_one,Nat.zero_add] at g3 hR
    refine ⟨_,ev_num2 Γ s hs a hf ha hk h1 hv q b hR,by omega,g2,wz_int f 2 _ (by decide),unzz_rng g3,by unfold bareE;simp,?_⟩
    rw [hd,hd1,g4]
    unfold encE
    simp [zz_unzz,b8]
 · rw [hv] at hd1
   by_cases h2 : a + 2 = s.size
   · exact ⟨_,ev_tru2_end Γ s hs a ha hk h1 hv h2,by show a + 2 ≤ s.size;omega⟩
   have h2 : a + 2 < s.size:=by omega
   have hd2:=dropU h2
   have hc:=atS_lt s (a + 2)
   by_cases hz : wchk f 2 2 ((atS s (a + 2) : Nat) : Int) noB tp0 noB = 0
   · refine ⟨_,ev_tru2 Γ s hs a hf ha hk h1 hv h2 hz,by omega,by omega,hz,(by unfold Rng;simp only;omega),by unfold bareE;simp,?_⟩
     rw [hd,hd1,hd2]
     unfold encE
     simp [b8]
   · exact ⟨_,ev_tru2_no Γ s hs a hf ha hk h1 hv h2 hz,by show a + 2 ≤ s.size;omega⟩
 · rw [hv] at hd1
   cases hR : txtO s (a + 2) with
   | no p b=>exact ⟨_,ev_txt2_no Γ s hs a ha hk h1 hv p b hR,(txtO_no (by omega) hR).1⟩
   | ok w b =>
    obtain ⟨g1,g2,g4⟩:=txtO_ok hs63 hR
    by_cases hz : wchk f 2 3 0 w tp0 noB = 0
    · refine ⟨_,ev_txt2 Γ s hs a hf ha hk h1 hv w b hR hz,by omega,g2,hz,(by unfold Rng;simp only;omega),by unfold bareE;simp,?_⟩
      rw [hd,hd1,g4]
      unfold encE
      simp [b8]
    · exact ⟨_,ev_txt2_bad Γ s hs a hf ha hk h1 hv w b hR hz,by show a + 2 ≤ s.size;omega⟩
theorem rd_all3 (Γ : Gl) {f : ByteArray → Bool} (hf : VSok Γ f) (s : ByteArray) (hs : s.size ≤ 140737488355328) (a : Nat) (ha : a < s.size) (hk : atS s a = 3) : ∃ o,RdE Γ s a o ∧ GoodE f s a o:=by
 have hs63:=u64_size hs
 have hd:=dropU ha
 rw [hk] at hd
 by_cases h1 : a + 1 = s.size
 · exact ⟨_,ev_end3 Γ s hs a ha hk h1,by show a + 1 ≤ s.size;omega⟩
 have h1 : a + 1 < s.size:=by omega
 have hd1:=dropU h1
 by_cases hv : atS s (a + 1) = 0 ∨ 3 < atS s (a + 1)
 · exact ⟨_,ev_bad3 Γ s hs a ha hk h1 hv,by show a + 1 ≤ s.size;omega⟩
 have hv : atS s (a + 1) = 1 ∨ atS s (a + 1) = 2 ∨ atS s (a + 1) = 3:=by omega
 rcases hv with hv | hv | hv
 · rw [hv] at hd1
   cases hR : numO s (a + 2) 10 0 0 (a + 2) with
   | no p b=>exact ⟨_,ev_num3_no Γ s hs a ha hk h1 hv p b hR,(numO_no (by omega) 10 0 0 (a + 2) p b (by omega) hR).1⟩
   | ok n b =>
    obtain ⟨g1,g2,g3,q,rfl, -,g4⟩:=numO_ok 10 0 0 (a + 2) n b (by omega) (by omega) hR
    simp only [Nat.pow_zero,Nat.mul_one,Nat.zero_add] at g3 hR
    refine ⟨_,ev_num3 Γ s hs a hf ha hk h1 hv q b hR,by omega,g2,wz_int f 3 _ (by decide),unzz_rng g3,by unfold bareE;simp,?_⟩
    rw [hd,hd1,g4]
    unfold encE
    simp [zz_unzz,b8]
 · rw [hv] at hd1
   by_cases h2 : a + 2 = s.size
   · exact ⟨_,ev_tru3_end Γ s hs a ha hk h1 hv h2,by show a + 2 ≤ s.size;omega⟩
   have h2 : a + 2 < s.size:=by omega
   have hd2:=dropU h2
   have hc:=atS_lt s (a + 2)
   by_cases hz : wchk f 3 2 ((atS s (a + 2) : Nat) : Int) noB tp0 noB = 0
   · refine ⟨_,ev_tru3 Γ s hs a hf ha hk h1 hv h2 hz,by omega,by omega,hz,(by unfold Rng;simp only;omega),by unfold bareE;simp,?_⟩
     rw [hd,hd1,hd2]
     unfold encE
     simp [b8]
   · exact ⟨_,ev_tru3_no Γ s hs a hf ha hk h1 hv h2 hz,by show a + 2 ≤ s.size;omega⟩
 · rw [hv] at hd1
   cases hR : txtO s (a + 2) with
   | no p b=>exact ⟨_,ev_txt3_no Γ s hs a ha hk h1 hv p b hR,(txtO_no (by omega) hR).1⟩
   | ok w b =>
    obtain ⟨g1,g2,g4⟩:=txtO_ok hs63 hR
    by_cases hz : wchk f 3 3 0 w tp0 noB = 0
    · refine ⟨_,ev_txt3 Γ s hs a hf ha hk h1 hv w b hR hz,by omega,g2,hz,(by unfold Rng;simp only;omega),by unfold bareE;simp,?_⟩
      rw [hd,hd1,g4]
      unfold encE
      simp [b8]
    · exact ⟨_,ev_txt3_bad Γ s hs a hf ha hk h1 hv w b hR hz,by show a + 2 ≤ s.size;omega⟩
theorem rd_all4 (Γ : Gl) {f : ByteArray → Bool} (hf : VSok Γ f) (hG : GD Tryd.prog Γ 1 22 (.slc (sortsL.map sD))) (s : ByteArray) (hs : s.size ≤ 140737488355328) (a : Nat) (ha : a < s.size) (hk : atS s a = 4) : ∃ o,RdE Γ s a o ∧ GoodE f s a o:=by
 have hs63:=u64_size hs
 have hd:=dropU ha
 rw [hk] at hd
 cases hR : txtO s (a + 1) with
 | no p b=>exact ⟨_,ev_car4_no Γ s hs a ha hk p b hR,(txtO_no (by omega) hR).1⟩
 | ok w b =>
  obtain ⟨g1,g2,g4⟩:=txtO_ok hs63 hR
  obtain ⟨⟨x,e,t⟩,hp,h1,h2⟩:=parse_tot Γ hG w
  by_cases he : e = 0
  · obtain ⟨-,hc, -⟩:=h1 he
    by_cases hw : wrtT x = w
    · refine ⟨_,ev_car4 Γ s hs a hf hG ha hk w b hR x e t hp he hc hw,by omega,g2,?_,(by unfold Rng;simp only;omega),by unfold bareE;simp,?_⟩
      · unfold evChk wchk;rw [if_neg (by simp),if_pos (by simp)];exact hc
      · rw [hd,g4]
        unfold encE
        simp [hw,b8]
    · exact ⟨_,ev_car4_oth Γ s hs a hG ha hk w b hR x e t hp he hc hw,by show a + 1 ≤ s.size;omega⟩
  · exact ⟨_,ev_car4_bad Γ s hs a hG ha hk w b hR x e t hp he,by show a + 1 ≤ s.size;omega⟩
theorem rd_all5 (Γ : Gl) {f : ByteArray → Bool} (hf : VSok Γ f) (hG : GD Tryd.prog Γ 1 22 (.slc (sortsL.map sD))) (s : ByteArray) (hs : s.size ≤ 140737488355328) (a : Nat) (ha : a < s.size) (hk : atS s a = 5) : ∃ o,RdE Γ s a o ∧ GoodE f s a o:=by
 have hs63:=u64_size hs
 have hd:=dropU ha
 rw [hk] at hd
 cases hR : txtO s (a + 1) with
 | no p b=>exact ⟨_,ev_car5_no Γ s hs a ha hk p b hR,(txtO_no (by omega) hR).1⟩
 | ok w b =>
  obtain ⟨g1,g2,g4⟩:=txtO_ok hs63 hR
  obtain ⟨⟨x,e,t⟩,hp,h1,h2⟩:=parse_tot Γ hG w
  by_cases he : e = 0
  · obtain ⟨-,hc, -⟩:=h1 he
    by_cases hw : wrtT x = w
    · refine ⟨_,ev_car5 Γ s hs a hf hG ha hk w b hR x e t hp he hc hw,by omega,g2,?_,(by unfold Rng;simp only;omega),by unfold bareE;simp,?_⟩
      · unfold evChk wchk;rw [if_neg (by simp),if_pos (by simp)];exact hc
      · rw [hd,g4]
        unfold encE
        simp [hw,b8]
    · exact ⟨_,ev_car5_oth Γ s hs a hG ha hk w b hR x e t hp he hc hw,by show a + 1 ≤ s.size;omega⟩
  · exact ⟨_,ev_car5_bad Γ s hs a hG ha hk w b hR x e t hp he,by show a + 1 ≤ s.size;omega⟩
theorem rd_all6 (Γ : Gl) {f : ByteArray → Bool} (hf : VSok Γ f) (s : ByteArray) (hs : s.size ≤ 140737488355328) (a : Nat) (ha : a < s.size) (hk : atS s a = 6) : ∃ o,RdE Γ s a o ∧ GoodE f s a o:=by
 have hs63:=u64_size hs
 have hd:=dropU ha
 rw [hk] at hd
 cases hR : txtO s (a + 1) with
 | no p b=>exact ⟨_,ev_lab6_no Γ s hs a ha hk p b hR,(txtO_no (by omega) hR).1⟩
 | ok w b =>
  obtain ⟨g1,g2,g4⟩:=txtO_ok hs63 hR
  by_cases hn : isNameB w = true
  · refine ⟨_,ev_lab6 Γ s hs a hf ha hk w b hR hn,by omega,g2,?_,(by unfold Rng;simp only;omega),by unfold bareE;simp,?_⟩
    · unfold evChk wchk;rw [if_neg (by simp),if_neg (by simp),if_pos (by simp),if_pos hn]
    · rw [hd,g4]
      unfold encE
      simp [b8]
  · exact ⟨_,ev_lab6_bad Γ s hs a hf ha hk w b hR hn,by show a + 1 ≤ s.size;omega⟩
theorem rd_all7 (Γ : Gl) {f : ByteArray → Bool} (hf : VSok Γ f) (s : ByteArray) (hs : s.size ≤ 140737488355328) (a : Nat) (ha : a < s.size) (hk : atS s a = 7) : ∃ o,RdE Γ s a o ∧ GoodE f s a o:=by
 have hs63:=u64_size hs
 have hd:=dropU ha
 rw [hk] at hd
 cases hR : txtO s (a + 1) with
 | no p b=>exact ⟨_,ev_lab7_no Γ s hs a ha hk p b hR,(txtO_no (by omega) hR).1⟩
 | ok w b =>
  obtain ⟨g1,g2,g4⟩:=txtO_ok hs63 hR
  by_cases hn : isNameB w = true
  · refine ⟨_,ev_lab7 Γ s hs a hf ha hk w b hR hn,by omega,g2,?_,(by unfold Rng;simp only;omega),by unfold bareE;simp,?_⟩
    · unfold evChk wchk;rw [if_neg (by simp),if_neg (by simp),if_pos (by simp),if_pos hn]
    · rw [hd,g4]
      unfold encE
      simp [b8]
  · exact ⟨_,ev_lab7_bad Γ s hs a hf ha hk w b hR hn,by show a + 1 ≤ s.size;omega⟩
theorem rd_all (Γ : Gl) {f : ByteArray → Bool} (hf : VSok Γ f) (hG : GD Tryd.prog Γ 1 22 (.slc (sortsL.map sD))) (s : ByteArray) (hs : s.size ≤ 140737488355328) (a : Nat) (ha : a < s.size) : ∃ o,RdE Γ s a o ∧ GoodE f s a o:=by
 by_cases hk : atS s a < 2 ∨ 7 < atS s a
 · exact ⟨_,ev_other Γ s hs a ha hk,by show a ≤ s.size;omega⟩
 have hk : atS s a = 2 ∨ atS s a = 3 ∨ atS s a = 4 ∨ atS s a = 5 ∨ atS s a = 6 ∨ atS s a = 7:=by omega
 rcases hk with hk | hk | hk | hk | hk | hk
 · exact rd_all2 Γ hf s hs a ha hk
 · exact rd_all3 Γ hf s hs a ha hk
 · exact rd_all4 Γ hf hG s hs a ha hk
 · exact rd_all5 Γ hf hG s hs a ha hk
 · exact rd_all6 Γ hf s hs a ha hk
 · exact rd_all7 Γ hf s hs a ha hk
end Go.Proofs.YtdcplkefmpjppaaDoor.GG
