/- types' reader: what is written is read back, whatever blanks stand around the signs: plain. -/
import Derived.Test.YtdcplkefmpjppaaDoorDT16
set_option linter.unusedVariables false
set_option linter.unusedSimpArgs false
namespace Go.Proofs.YtdcplkefmpjppaaDoor.GG
open Go.RowKit Go.Sw

section
variable (Γ : Gl) (s : ByteArray) (hs : s.size ≤ 2000) (hG : GD Tryd.prog Γ 1 22 (.slc (sortsL.map sD))) (n : Nat)
def RB (x : Tp) : Prop := ∀ (a m : Nat) (rest : List UInt8),s.data.toList.drop a = bl m ++ (fl n (wrT x).data.toList ++ rest) → noLet rest →
 ∃ b t,RdT Γ s 122 [] a (.ok x b) ∧ a ≤ b ∧ b ≤ s.size ∧ s.data.toList.drop b = bl t ++ rest
theorem bl_two (m n : Nat) (l : List UInt8) : bl m ++ (bl n ++ l) = bl (m + n) ++ l:=by rw [← List.append_assoc,bl_app]
theorem wAt_le {s : ByteArray} {a : Nat} : a ≤ wAt s a:=by unfold wAt;omega
include hs hG in
theorem pass_back (v c so : Int) (h1 : 1 ≤ so) (h3 : so ≤ 3) (x : Tp) (ih : RB Γ s n x) (k m : Nat) (rest : List UInt8) (hk : k < s.size)
 (h : s.data.toList.drop (k + 1) = bl m ++ ((sortW so).data.toList ++ (bl n ++ 46 :: (bl n ++ (fl n (wrT x).data.toList ++ rest))))) (hr : noLet rest) :
 ∃ b t,RdT Γ s 137 [.d (iD v),.d (iD c)] k (.ok (.mk v so noB [] [x]) b) ∧ k ≤ b ∧ b ≤ s.size ∧ s.data.toList.drop b = bl t ++ rest:=by
 obtain ⟨hi,hlt,hz⟩:=sort_facts h1 h3
 obtain ⟨g1,g2,g3,g4,g5,g6⟩:=at_word h hlt hz (noLet_bl (by decide))
 obtain ⟨q1,q2,q3,q4,q5⟩:=at_sign g5 (by decide)
 obtain ⟨b,t,r1,r2,r3,r4⟩:=ih _ n rest q4 hr
 have e:=passed_ok8 Γ s hs v c k hk hG (g6 123 (by omega)) (by rw [g4,hi];omega) (by rw [g4,q5];rfl) x b (by rw [g4];exact r1)
 rw [g4,hi] at e
 have w1:=wAt_le (s:=s) (a:=wAt s (k + 1) + (sortW so).size)
 exact ⟨b,t,e,by omega,r3,r4⟩
include hs in
theorem give_back (v c : Int) (x y : Tp) (ihx : RB Γ s n x) (ihy : RB Γ s n y) (k m : Nat) (rest : List UInt8) (hk : k < s.size)
 (h : s.data.toList.drop (k + 1) = bl m ++ 123 :: (bl n ++ (fl n (wrT x).data.toList ++ (bl n ++ 125 :: (bl n ++ (bl n ++ 46 :: (bl n ++ (fl n (wrT y).data.toList ++ rest)))))))) (hr : noLet rest) :
 ∃ b t,RdT Γ s 137 [.d (iD v),.d (iD c)] k (.ok (.mk c 0 noB [] [x,y]) b) ∧ k ≤ b ∧ b ≤ s.size ∧ s.data.toList.drop b = bl t ++ rest:=by
 obtain ⟨g1,g2,g3,g4,g5⟩:=at_sign h (by decide)
 obtain ⟨b1,t1,r1,r2,r3,r4⟩:=ihx _ n _ g4 (noLet_bl (by decide))
 rw [bl_two] at r4
 obtain ⟨q1,q2,q3,q4,q5⟩:=at_sign r4 (by decide)
 rw [bl_two] at q4
 obtain ⟨p1,p2,p3,p4,p5⟩:=at_sign q4 (by decide)
 obtain ⟨b2,t2,u1,u2,u3,u4⟩:=ihy _ n rest p4 hr
 have e:=passed_ok Γ s hs v c k hk (by rw [g5];rfl) x b1 r3 r1 (by rw [q5];rfl) (by rw [p5];rfl) y b2 u1
 have w1:=wAt_le (s:=s) (a:=k + 1)
 have w2:=wAt_le (s:=s) (a:=b1)
 have w3:=wAt_le (s:=s) (a:=wAt s b1 + 1)
 exact ⟨b2,t2,e,by omega,u3,u4⟩
def itT (rest : List UInt8) : List ByteArray → List Tp → List UInt8
 | w :: _,[x]=>w.data.toList ++ (bl n ++ 58 :: (bl n ++ (fl n (wrT x).data.toList ++ (bl n ++ 125 :: (bl n ++ rest)))))
 | w :: ls,x :: y :: K=>w.data.toList ++ (bl n ++ 58 :: (bl n ++ (fl n (wrT x).data.toList ++ (bl n ++ 44 :: (bl n ++ itT rest ls (y :: K))))))
 | _,_=>[]
theorem lab_last : ∀ (M : List ByteArray) (p w : ByteArray) (r : List ByteArray) (q : ByteArray),labGo p (M ++ w :: r) = true → (p :: M).getLast? = some q → leB w q = false
 | [], p,w,r,q,h,hq=>by
  simp only [List.getLast?_singleton,Option.some.injEq] at hq
  subst hq
  rw [List.nil_append,labGo] at h
  split at h
  · split at h
    · cases h
    · rename_i h2;simpa using h2
  · cases h
 | y :: M,p,w,r,q,h,hq=>by
  rw [List.cons_append,labGo] at h
  split at h
  · split at h
    · cases h
    · exact lab_last M y w r q h (by simpa using hq)
  · cases h
theorem lab_bad {L : List ByteArray} {w : ByteArray} {r : List ByteArray} (h : labelsB (L ++ w :: r) = true) : badL L w = false:=by
 have hw:=labels_names h w (by simp)
 have hl:=labels_len h
 simp only [List.length_append,List.length_cons] at hl
 unfold badL
 rw [if_pos hw]
 cases L with
 | nil=>rfl
 | cons p M =>
  have hgo : labGo p (M ++ w :: r) = true:=by
   unfold labelsB at h
   split at h
   · cases h
   split at h
   · cases h
   · rw [List.cons_append,labAll] at h
     split at h
     · exact h
     · cases h
  cases hq : (p :: M).getLast? with
  | none=>simp at hq
  | some q =>
   have hle:=lab_last M p w r q hgo hq
   simp only [hle,Bool.false_eq_true,if_false,decide_eq_false_iff_not]
   simp only [List.length_cons] at hl ⊢
   omega
theorem loop_back (kd : Int) (rest : List UInt8) : ∀ (K' : List Tp) (ls' : List ByteArray) (L : List ByteArray) (K : List Tp) (a m : Nat),K'.length = ls'.length → K' ≠ [] → labelsB (L ++ ls') = true → (∀ x ∈ K',RB Γ s n x) →
 s.data.toList.drop a = bl m ++ itT n rest ls' K' → ∃ b t,CLoop Γ s kd L K a (.ok (.mk kd 0 noB (L ++ ls') (K ++ K')) b) ∧ a ≤ b ∧ b ≤ s.size ∧ s.data.toList.drop b = bl t ++ rest
 | [],ls',L,K,a,m,hlen,hne,hlab,ih,h=>absurd rfl hne
 | x :: K',[],L,K,a,m,hlen,hne,hlab,ih,h=>by simp at hlen
 | x :: K',w :: ls',L,K,a,m,hlen,hne,hlab,ih,h=>by
  have hbad:=lab_bad hlab
  have hnm:=labels_names hlab w (by simp)
  cases K' with
  | nil =>
   have hls : ls' = []:=by
    simp only [List.length_cons,List.length_nil] at hlen
    exact List.eq_nil_of_length_eq_zero (by omega)
   subst hls
   rw [itT] at h
   obtain ⟨g1,g2,g3,g4,g5, -⟩:=at_word h (name_let hnm) (name_size hnm).2 (noLet_bl (by decide))
   obtain ⟨q1,q2,q3,q4,q5⟩:=at_sign g5 (by decide)
   have hbad' : badL L (wOf s a) = false:=by rw [g4];exact hbad
   have hc : isB s (wAt s a + (wOf s a).size) 58 = true:=by rw [g4,q5];rfl
   have w2:=wAt_le (s:=s) (a:=wAt s a + w.size)
   obtain ⟨b1,t1,r1,r2,r3,r4⟩:=ih x (by simp) _ n _ q4 (noLet_bl (by decide))
   rw [bl_two] at r4
   obtain ⟨p1,p2,p3,p4,p5⟩:=at_sign r4 (by decide)
   have w3:=wAt_le (s:=s) (a:=b1)
   have e:=CLoop.done (kd:=kd) L K a hbad' hc x b1 (by omega) r3 (by rw [g4];exact r1) (by rw [p5];rfl)
   rw [g4] at e
   exact ⟨_,n,e,by omega,by omega,p4⟩
  | cons y K'' =>
   rw [itT] at h
   obtain ⟨g1,g2,g3,g4,g5, -⟩:=at_word h (name_let hnm) (name_size hnm).2 (noLet_bl (by decide))
   obtain ⟨q1,q2,q3,q4,q5⟩:=at_sign g5 (by decide)
   have hbad' : badL L (wOf s a) = false:=by rw [g4];exact hbad
   have hc : isB s (wAt s a + (wOf s a).size) 58 = true:=by rw [g4,q5];rfl
   have w2:=wAt_le (s:=s) (a:=wAt s a + w.size)
   obtain ⟨b1,t1,r1,r2,r3,r4⟩:=ih x (by simp) _ n _ q4 (noLet_bl (by decide))
   rw [bl_two] at r4
   obtain ⟨p1,p2,p3,p4,p5⟩:=at_sign r4 (by decide)
   have w3:=wAt_le (s:=s) (a:=b1)
   obtain ⟨b2,t2,u1,u2,u3,u4⟩:=loop_back kd rest (y :: K'') ls' (L ++ [w]) (K ++ [x]) (wAt s b1 + 1) n (by simpa using hlen) (by simp) (by rw [List.append_assoc];exact hlab) (fun z hz=>ih z (by simp only [List.mem_cons] at hz ⊢;exact .inr hz)) p4
   have e:=CLoop.more (kd:=kd) L K a hbad' hc x b1 (by omega) r3 (by rw [g4];exact r1) (by rw [p5];rfl) (by rw [p5];rfl) _ (by rw [g4];exact u1)
   rw [List.append_assoc,List.append_assoc] at e
   exact ⟨b2,t2,e,by omega,u3,u4⟩
theorem tail_text (rest : List UInt8) : ∀ (ls : List ByteArray) (K : List Tp) (w : ByteArray) (x : Tp),K.length = ls.length → (∀ s ∈ w :: ls,isNameB s = true) →
 fl n (itemB w (wrT x)).data.toList ++ (fl n (Lib.joinTail [44] ((List.zipWith itemB ls (wrTs K)).map (·.data.toList))) ++ (bl n ++ 125 :: (bl n ++ rest))) = itT n rest (w :: ls) (x :: K)
 | [],[],w,x,hl,hn=>by
  have e : (⟨#[58]⟩ : ByteArray).data.toList = [58]:=rfl
  rw [itT]
  simp only [itemB,app_data,fl_app,fl_let (name_let (hn w (by simp))),e,fl_sg (show isSg 58 = true from rfl),fl_nil,List.zipWith_nil_left,List.map_nil,Lib.joinTail,List.flatten_nil,List.append_nil,List.nil_append,List.append_assoc,List.cons_append]
 | [],y :: K,w,x,hl,hn=>by simp at hl
 | u :: ls,[],w,x,hl,hn=>by simp at hl
 | u :: ls,y :: K,w,x,hl,hn=>by
  have ih:=tail_text rest ls K u y (by simpa using hl) (fun s hs=>hn s (by simp only [List.mem_cons] at hs ⊢;exact .inr hs))
  have e : (⟨#[58]⟩ : ByteArray).data.toList = [58]:=rfl
  have hj : ∀ (z : List UInt8) (r : List (List UInt8)),Lib.joinTail [44] (z :: r) = 44 :: (z ++ Lib.joinTail [44] r):=fun z r=>by simp [Lib.joinTail]
  rw [itT, ← ih]
  simp only [wrTs,List.zipWith_cons_cons,List.map_cons,hj]
  simp only [itemB,app_data,fl_app,fl_let (name_let (hn w (by simp))),e,fl_sg (show isSg 58 = true from rfl),fl_sg (show isSg 44 = true from rfl),fl_nil,List.append_nil,List.nil_append,List.append_assoc,List.cons_append]
theorem items_text (rest : List UInt8) (ls : List ByteArray) (K : List Tp) (hl : K.length = ls.length) (h0 : K ≠ []) (hn : ∀ s ∈ ls,isNameB s = true) :
 fl n (joinB (List.zipWith itemB ls (wrTs K))).data.toList ++ (bl n ++ 125 :: (bl n ++ rest)) = itT n rest ls K:=by
 cases K with
 | nil=>exact absurd rfl h0
 | cons x K =>
  cases ls with
  | nil=>simp at hl
  | cons w ls =>
   rw [← tail_text n rest ls K w x (by simpa using hl) hn]
   have e : (joinB (List.zipWith itemB (w :: ls) (wrTs (x :: K)))).data.toList = (itemB w (wrT x)).data.toList ++ Lib.joinTail [44] ((List.zipWith itemB ls (wrTs K)).map (·.data.toList)):=by
    simp only [wrTs,List.zipWith_cons_cons,joinB,packS,List.map_cons,Lib.join_cons]
   rw [e,fl_app,List.append_assoc]
theorem noB_1 : (ByteArray.toList noB == ByteArray.toList ⟨#[101,110,100]⟩) = false:=by decide +kernel
theorem noB_2 : (ByteArray.toList noB == ByteArray.toList ⟨#[114,101,99]⟩) = false:=by decide +kernel
theorem noB_3 : isVarB noB = false:=by decide +kernel
theorem noB_5 : (ByteArray.toList noB == ByteArray.toList ⟨#[]⟩) = true:=by decide +kernel
theorem lets3 : (∀ b ∈ (⟨#[101,110,100]⟩ : ByteArray).data.toList,isLet b = true) ∧ ∀ b ∈ (⟨#[114,101,99]⟩ : ByteArray).data.toList,isLet b = true:=by decide
include hs hG in
theorem rd_back {x : Tp} (h : OkT x) : RB Γ s n x:=by
 induction h with
 | nil =>
  intro a m rest hd hr
  rw [wr_end,fl_let lets3.1] at hd
  obtain ⟨g1,g2,g3,g4,g5, -⟩:=at_word hd lets3.1 (by decide) hr
  refine ⟨_,0,one_end Γ s hs a g1 (by rw [g4];exact beq_self_eq_true _),by omega,g3,?_⟩
  rw [bl_zero,List.nil_append];exact g5
 | pass k so x hk h1 h3 hx ih =>
  intro a m rest hd hr
  obtain ⟨-,hlt, -⟩:=sort_facts h1 h3
  have e46 : (⟨#[46]⟩ : ByteArray).data.toList = [46]:=rfl
  rw [wr_pass hk] at hd
  rcases hk with rfl | rfl
  · have ec : (if (2 : Int) = 2 then (⟨#[33]⟩ : ByteArray) else ⟨#[63]⟩).data.toList = [33]:=rfl
    rw [app_data,app_data,app_data,ec,e46] at hd
    simp only [fl_app,fl_let hlt,fl_sg (show isSg 33 = true from rfl),fl_sg (show isSg 46 = true from rfl),fl_nil,List.append_nil,List.nil_append,List.append_assoc,List.cons_append,bl_two] at hd
    obtain ⟨g1,g2,g3,g4,g5⟩:=at_sign hd (by decide)
    have hw:=sign_noword hd (by decide) (by decide)
    obtain ⟨b,t,r1,r2,r3,r4⟩:=pass_back Γ s hs hG n 2 4 so h1 h3 x ih (wAt s a) n rest g2 g4 hr
    have w1:=wAt_le (s:=s) (a:=a)
    exact ⟨b,t,one_sign33 Γ s hs a g1 (by rw [hw];exact noB_1) (by rw [hw];exact noB_2) (by rw [hw];exact noB_3) (by rw [hw];exact noB_5) (by rw [g5];rfl) _ r1,by omega,r3,r4⟩
  · have ec : (if (3 : Int) = 2 then (⟨#[33]⟩ : ByteArray) else ⟨#[63]⟩).data.toList = [63]:=rfl
    rw [app_data,app_data,app_data,ec,e46] at hd
    simp only [fl_app,fl_let hlt,fl_sg (show isSg 63 = true from rfl),fl_sg (show isSg 46 = true from rfl),fl_nil,List.append_nil,List.nil_append,List.append_assoc,List.cons_append,bl_two] at hd
    obtain ⟨g1,g2,g3,g4,g5⟩:=at_sign hd (by decide)
    have hw:=sign_noword hd (by decide) (by decide)
    obtain ⟨b,t,r1,r2,r3,r4⟩:=pass_back Γ s hs hG n 3 5 so h1 h3 x ih (wAt s a) n rest g2 g4 hr
    have w1:=wAt_le (s:=s) (a:=a)
    exact ⟨b,t,one_sign63 Γ s hs a g1 (by rw [hw];exact noB_1) (by rw [hw];exact noB_2) (by rw [hw];exact noB_3) (by rw [hw];exact noB_5) (by rw [g5];rfl) (by rw [g5];rfl) _ r1,by omega,r3,r4⟩
 | give k x y hk hx hy ihx ihy =>
  intro a m rest hd hr
  have e2 : (⟨#[125,46]⟩ : ByteArray).data.toList = [125,46]:=rfl
  rw [wr_give hk] at hd
  rcases hk with rfl | rfl
  · have ec : (if (4 : Int) = 4 then (⟨#[33,123]⟩ : ByteArray) else ⟨#[63,123]⟩).data.toList = [33,123]:=rfl
    rw [app_data,app_data,app_data,ec,e2] at hd
    simp only [fl_app,fl_sg (show isSg 33 = true from rfl),fl_sg (show isSg 123 = true from rfl),fl_sg (show isSg 125 = true from rfl),fl_sg (show isSg 46 = true from rfl),fl_nil,List.append_nil,List.nil_append,List.append_assoc,List.cons_append] at hd
    rw [bl_two] at hd
    obtain ⟨g1,g2,g3,g4,g5⟩:=at_sign hd (by decide)
    have hw:=sign_noword hd (by decide) (by decide)
    rw [bl_two] at g4
    obtain ⟨b,t,r1,r2,r3,r4⟩:=give_back Γ s hs n 2 4 x y ihx ihy (wAt s a) (n + n) rest g2 g4 hr
    have w1:=wAt_le (s:=s) (a:=a)
    exact ⟨b,t,one_sign33 Γ s hs a g1 (by rw [hw];exact noB_1) (by rw [hw];exact noB_2) (by rw [hw];exact noB_3) (by rw [hw];exact noB_5) (by rw [g5];rfl) _ r1,by omega,r3,r4⟩
  · have ec : (if (5 : Int) = 4 then (⟨#[33,123]⟩ : ByteArray) else ⟨#[63,123]⟩).data.toList = [63,123]:=rfl
    rw [app_data,app_data,app_data,ec,e2] at hd
    simp only [fl_app,fl_sg (show isSg 63 = true from rfl),fl_sg (show isSg 123 = true from rfl),fl_sg (show isSg 125 = true from rfl),fl_sg (show isSg 46 = true from rfl),fl_nil,List.append_nil,List.nil_append,List.append_assoc,List.cons_append] at hd
    rw [bl_two] at hd
    obtain ⟨g1,g2,g3,g4,g5⟩:=at_sign hd (by decide)
    have hw:=sign_noword hd (by decide) (by decide)
    rw [bl_two] at g4
    obtain ⟨b,t,r1,r2,r3,r4⟩:=give_back Γ s hs n 3 5 x y ihx ihy (wAt s a) (n + n) rest g2 g4 hr
    have w1:=wAt_le (s:=s) (a:=a)
    exact ⟨b,t,one_sign63 Γ s hs a g1 (by rw [hw];exact noB_1) (by rw [hw];exact noB_2) (by rw [hw];exact noB_3) (by rw [hw];exact noB_5) (by rw [g5];rfl) (by rw [g5];rfl) _ r1,by omega,r3,r4⟩
 | pick k ls l hk hl hn h ih =>
  intro a m rest hd hr
  have e1 : (⟨#[125]⟩ : ByteArray).data.toList = [125]:=rfl
  have hne : l ≠ []:=by
   intro hz
   have:=labels_pos hl
   rw [hz,List.length_nil] at hn
   omega
  rw [wr_pick hk] at hd
  rcases hk with rfl | rfl
  · have ec : (if (6 : Int) = 6 then (⟨#[43,123]⟩ : ByteArray) else ⟨#[38,123]⟩).data.toList = [43,123]:=rfl
    rw [app_data,app_data,ec,e1] at hd
    simp only [fl_app,fl_sg (show isSg 43 = true from rfl),fl_sg (show isSg 123 = true from rfl),fl_sg (show isSg 125 = true from rfl),fl_nil,List.append_nil,List.nil_append,List.append_assoc,List.cons_append] at hd
    rw [items_text n rest ls l hn hne (labels_names hl),bl_two] at hd
    obtain ⟨g1,g2,g3,g4,g5⟩:=at_sign hd (by decide)
    have hw:=sign_noword hd (by decide) (by decide)
    rw [bl_two] at g4
    obtain ⟨q1,q2,q3,q4,q5⟩:=at_sign g4 (by decide)
    obtain ⟨b,t,r1,r2,r3,r4⟩:=loop_back Γ s n 6 rest l ls [] [] _ n hn hne hl ih q4
    have w1:=wAt_le (s:=s) (a:=a)
    have w2:=wAt_le (s:=s) (a:=wAt s a + 1)
    have e:=choice_ok Γ s hs 6 (wAt s a) g2 (by rw [q5];rfl) _ _ r1
    exact ⟨b,t,one_sign43 Γ s hs a g1 (by rw [hw];exact noB_1) (by rw [hw];exact noB_2) (by rw [hw];exact noB_3) (by rw [hw];exact noB_5) (by rw [g5];rfl) (by rw [g5];rfl) (by rw [g5];rfl) _ e,by omega,r3,r4⟩
  · have ec : (if (7 : Int) = 6 then (⟨#[43,123]⟩ : ByteArray) else ⟨#[38,123]⟩).data.toList = [38,123]:=rfl
    rw [app_data,app_data,ec,e1] at hd
    simp only [fl_app,fl_sg (show isSg 38 = true from rfl),fl_sg (show isSg 123 = true from rfl),fl_sg (show isSg 125 = true from rfl),fl_nil,List.append_nil,List.nil_append,List.append_assoc,List.cons_append] at hd
    rw [items_text n rest ls l hn hne (labels_names hl),bl_two] at hd
    obtain ⟨g1,g2,g3,g4,g5⟩:=at_sign hd (by decide)
    have hw:=sign_noword hd (by decide) (by decide)
    rw [bl_two] at g4
    obtain ⟨q1,q2,q3,q4,q5⟩:=at_sign g4 (by decide)
    obtain ⟨b,t,r1,r2,r3,r4⟩:=loop_back Γ s n 7 rest l ls [] [] _ n hn hne hl ih q4
    have w1:=wAt_le (s:=s) (a:=a)
    have w2:=wAt_le (s:=s) (a:=wAt s a + 1)
    have e:=choice_ok Γ s hs 7 (wAt s a) g2 (by rw [q5];rfl) _ _ r1
    exact ⟨b,t,one_sign38 Γ s hs a g1 (by rw [hw];exact noB_1) (by rw [hw];exact noB_2) (by rw [hw];exact noB_3) (by rw [hw];exact noB_5) (by rw [g5];rfl) (by rw [g5];rfl) (by rw [g5];rfl) (by rw [g5];rfl) _ e,by omega,r3,r4⟩
 | bind nm x hn hx ih =>
  intro a m rest hd hr
  have hp:=var_parts hn
  have e46 : (⟨#[46]⟩ : ByteArray).data.toList = [46]:=rfl
  have ec : (⟨#[114,101,99,32]⟩ : ByteArray).data.toList = (⟨#[114,101,99]⟩ : ByteArray).data.toList ++ [32]:=rfl
  rw [wr_bind] at hd
  have hd : s.data.toList.drop a = bl m ++ ((⟨#[114,101,99]⟩ : ByteArray).data.toList ++ (32 :: (nm.data.toList ++ (bl n ++ 46 :: (bl n ++ (fl n (wrT x).data.toList ++ rest)))))):=by
   rw [hd,app_data,app_data,app_data,ec,e46]
   simp only [fl_app,fl_let lets3.2,fl_let (name_let hp.1),fl_no (show isSg 32 = false from rfl),fl_no (show isSg 114 = false from rfl),fl_no (show isSg 101 = false from rfl),fl_no (show isSg 99 = false from rfl),fl_sg (show isSg 46 = true from rfl),fl_nil,List.append_nil,List.nil_append,List.append_assoc,List.cons_append]
  obtain ⟨g1,g2,g3,g4,g5, -⟩:=at_word hd lets3.2 (by decide) (fun c r h=>by cases h;decide)
  have g5 : s.data.toList.drop (wAt s a + 3) = bl 1 ++ (nm.data.toList ++ (bl n ++ 46 :: (bl n ++ (fl n (wrT x).data.toList ++ rest)))):=g5
  obtain ⟨u1,u2,u3,u4,u5, -⟩:=at_word g5 (name_let hp.1) (name_size hp.1).2 (noLet_bl (by decide))
  obtain ⟨q1,q2,q3,q4,q5⟩:=at_sign u5 (by decide)
  obtain ⟨b,t,r1,r2,r3,r4⟩:=ih _ n rest q4 hr
  have w2:=wAt_le (s:=s) (a:=wAt s (wAt s a + 3) + nm.size)
  have e:=one_rec_ok Γ s hs a g1 (by rw [g4];decide +kernel) (by rw [g4];exact beq_self_eq_true _) u1 (by rw [u4];exact hn) (by rw [u4,q5];rfl) x b (by rw [u4];exact r1)
  rw [u4] at e
  exact ⟨b,t,e,by omega,r3,r4⟩
 | var nm hn =>
  intro a m rest hd hr
  have hp:=var_parts hn
  rw [wr_var,fl_let (name_let hp.1)] at hd
  obtain ⟨g1,g2,g3,g4,g5, -⟩:=at_word hd (name_let hp.1) (name_size hp.1).2 hr
  have e:=one_var Γ s hs a g1 (by rw [g4];exact hp.2.1) (by rw [g4];exact hp.2.2) (by rw [g4];exact hn)
  rw [g4] at e
  refine ⟨_,0,e,by omega,g3,?_⟩
  rw [bl_zero,List.nil_append];exact g5
include hs hG in
theorem parse_back {x : Tp} (hx : tCheck x = 0) (h : s.data.toList = fl n (wrT x).data.toList) : DFn Tryd.prog Γ 76 [sD s] (.tup [x.d,.agg [iD 0,iD 0]]):=by
 obtain ⟨b,t,r1,r2,r3,r4⟩:=rd_back Γ s hs hG n (ok_check hx).1 0 0 [] (by rw [List.drop_zero,bl_zero,List.nil_append,List.append_nil];exact h) (fun c r h=>by cases h)
 have hb:=begin_fn Γ s hs 0 0 0 (by rw [if_neg (by omega)]) rfl (Nat.zero_le _) (.ok x b) r1 (fun y c h=>by cases h;exact r3)
 unfold begR at hb
 simp only [if_pos hx] at hb
 refine parse_ok Γ s _ _ hb ?_
 have hw : wAt s b = b + t:=by
  unfold wAt
  rw [r4,List.append_nil,skip_all]
 have hl:=congrArg List.length r4
 rw [List.length_drop,sizeL,List.append_nil] at hl
 simp only [bl,List.length_replicate] at hl
 omega
end
end Go.Proofs.YtdcplkefmpjppaaDoor.GG
