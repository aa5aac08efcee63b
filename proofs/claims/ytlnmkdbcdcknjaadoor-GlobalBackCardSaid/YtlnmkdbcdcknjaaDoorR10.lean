/- global's reader: what is written is read back: plain. -/
import Derived.Test.YtlnmkdbcdcknjaaDoorR9
set_option linter.unusedVariables false
set_option linter.unusedSimpArgs false
namespace Go.Proofs.YtlnmkdbcdcknjaaDoor.GG
open Go.RowKit Go.Sw

def okTl (l : List UInt8) : Prop:=l = [] ∨ ∃ c r,l = c :: r ∧ (c = 44 ∨ c = 125)
theorem okTl_no {l : List UInt8} (h : okTl l) : noLet l:=by
 intro c r hl
 rcases h with h | ⟨c',r',h,hc⟩
 · rw [h] at hl;cases hl
 · rw [h] at hl
   cases hl
   rcases hc with rfl | rfl <;> decide
theorem okTl_at {s : ByteArray} {a : Nat} {l : List UInt8} (ha : a ≤ s.size) (h : s.data.toList.drop a = l) (hl : okTl l) : wAt s a = a ∧ isB s a 62 = false:=by
 rcases hl with rfl | ⟨c,r,rfl,hc⟩
 · have hz : wAt s a = a:=by unfold wAt;rw [h];rfl
   refine ⟨hz,?_⟩
   unfold isB
   rw [hz,if_neg]
   have:=congrArg List.length h
   rw [List.length_drop,sizeL,List.length_nil] at this
   omega
 · have hc2 : c.toNat ≠ 32 ∧ (c.toNat == 62) = false:=by rcases hc with rfl | rfl <;> exact ⟨by decide,by decide⟩
   have h' : s.data.toList.drop a = bl 0 ++ c :: r:=by rw [h];rfl
   obtain ⟨g1,g2,g3,g4,g5⟩:=at_sign h' hc2.1
   refine ⟨?_,by rw [g5];exact hc2.2⟩
   unfold wAt
   rw [h',skip_bl c hc2.1 r 0]
   rfl
theorem sgn {s : ByteArray} {a : Nat} {c : UInt8} {tl : List UInt8} (h : s.data.toList.drop a = c :: tl) (hc : c.toNat ≠ 32) :
 a ≤ s.size ∧ wAt s a = a ∧ a < s.size ∧ s.data.toList.drop (a + 1) = tl ∧ ∀ c',isB s a c' = (c.toNat == c'):=by
 have h' : s.data.toList.drop a = bl 0 ++ c :: tl:=by rw [h];rfl
 obtain ⟨g1,g2,g3,g4,g5⟩:=at_sign h' hc
 have hz : wAt s a = a:=by
  unfold wAt
  rw [h',skip_bl c hc tl 0]
  rfl
 rw [hz] at g2 g4
 exact ⟨g1,hz,g2,g4,g5⟩
theorem wrd {s : ByteArray} {a : Nat} {w : ByteArray} {tl : List UInt8} (h : s.data.toList.drop a = w.data.toList ++ tl) (hw : ∀ b ∈ w.data.toList,isLet b = true) (h0 : 0 < w.size) (ht : noLet tl) :
 a ≤ s.size ∧ wAt s a = a ∧ wOf s a = w ∧ pB s a = a + w.size ∧ s.data.toList.drop (pB s a) = tl ∧ pB s a ≤ s.size:=by
 have h' : s.data.toList.drop a = bl 0 ++ (w.data.toList ++ tl):=by rw [h];rfl
 obtain ⟨g1,g2,g3,g4,g5,g6⟩:=at_word h' hw h0 ht
 have hz : wAt s a = a:=by
  unfold wAt
  rw [h]
  cases hl : w.data.toList with
  | nil =>
   have : w.size = w.data.toList.length:=rfl
   rw [hl,List.length_nil] at this
   omega
  | cons c r =>
   have hr:=let_range c (hw c (by rw [hl];simp))
   rw [List.cons_append,skipB,if_neg (by omega)]
   rfl
 have hp : pB s a = a + w.size:=by rw [pB_eq,hz,g4]
 rw [hz] at g3 g5
 exact ⟨g1,hz,g4,hp,by rw [hp];exact g5,by rw [hp];exact g3⟩
theorem noLet_c {c : UInt8} {tl : List UInt8} (h : isLet c = false) : noLet (c :: tl):=fun d r hl=>by cases hl;exact h
theorem role_name {w : ByteArray} (h : isRoleB w = true) : isNameB w = true ∧ (∀ b ∈ w.data.toList,isLet b = true) ∧ 0 < w.size ∧ ((w.toList == ByteArray.toList ⟨#[101,110,100]⟩) = false) ∧ ((w.toList == ByteArray.toList ⟨#[114,101,99]⟩) = false):=by
 have hz:=role_size h
 obtain ⟨c,hc⟩ : ∃ c,w = ⟨#[c]⟩:=by
  obtain ⟨d⟩:=w
  have hd : d.toList.length = 1:=hz
  match hl : d.toList,hd with
  | [c],_=>exact ⟨c,by rw [show d = #[c] from Array.toList_inj.1 hl]⟩
 subst hc
 have hr : 97 ≤ c.toNat ∧ c.toNat ≤ 104:=by
  unfold isRoleB at h
  simp [ByteArray.size] at h
  omega
 have : ∀ n : Fin 256,97 ≤ n.val → n.val ≤ 104 → isNameB ⟨#[UInt8.ofNat n.val]⟩ = true ∧ isLet (UInt8.ofNat n.val) = true ∧ (((⟨#[UInt8.ofNat n.val]⟩ : ByteArray).toList == ByteArray.toList ⟨#[101,110,100]⟩) = false) ∧ (((⟨#[UInt8.ofNat n.val]⟩ : ByteArray).toList == ByteArray.toList ⟨#[114,101,99]⟩) = false):=by decide +kernel
 have hc:=this ⟨c.toNat,c.toNat_lt⟩ hr.1 hr.2
 simp only [UInt8.ofNat_toNat] at hc
 refine ⟨hc.1,fun b hb=>?_,(show 0 < 1 from Nat.one_pos),hc.2.2.1,hc.2.2.2⟩
 have : b = c:=by simpa using hb
 rw [this];exact hc.2.1
theorem other_of {w v : ByteArray} (h : rolesB true w v = true) : otherB w v = true:=by
 have h1:=roles_two h
 unfold rolesB at h
 rw [if_pos rfl,if_pos h1.1,if_pos h1.2] at h
 unfold otherB
 rw [h1.2,cond_true]
 simp only [Bool.not_eq_true',beq_eq_false_iff_ne,ne_eq] at h ⊢
 exact fun e=>h e.symm
theorem okL_of {L : List ByteArray} {w : ByteArray} {r : List ByteArray} (h : labelsB (L ++ w :: r) = true) : okL L w = true:=by
 have hw:=labels_names h w (by simp)
 have hl:=labels_len h
 simp only [List.length_append,List.length_cons] at hl
 unfold okL
 rw [hw,cond_true,decide_eq_true (by omega : L.length < 6),cond_true]
 cases L with
 | nil=>rfl
 | cons p M =>
  have hgo : labGo p (M ++ w :: r) = true:=by
   unfold labelsB at h
   split at h
   · cases h
   split at h
   · cases h
   · rw [List.cons_append,labAll] at h
     split at h
     · exact h
     · cases h
  cases hq : (p :: M).getLast? with
  | none=>simp at hq
  | some q =>
   have key : ∀ (M : List ByteArray) (p : ByteArray),labGo p (M ++ w :: r) = true → (p :: M).getLast? = some q → leB w q = false:=by
    intro M
    induction M with
    | nil =>
     intro p h hq
     simp only [List.getLast?_singleton,Option.some.injEq] at hq
     subst hq
     rw [List.nil_append,labGo,if_pos hw] at h
     by_cases hle : leB w p = true
     · rw [if_pos hle] at h;exact absurd h (by decide)
     · simpa using hle
    | cons y M ih =>
     intro p h hq
     rw [List.cons_append,labGo] at h
     by_cases hy : isNameB y = true
     · rw [if_pos hy] at h
       by_cases hle : leB y p = true
       · rw [if_pos hle] at h;exact absurd h (by decide)
       · rw [if_neg hle] at h;exact ih y h (by simpa using hq)
     · rw [if_neg hy] at h;exact absurd h (by decide)
   simp only [key M p hgo hq,Bool.not_false]
section
variable (Γ : Gl) (s : ByteArray) (hs : s.size ≤ 2000) (hG : GD Tryd.prog Γ 0 22 (.slc (sortsL.map sD)))
def RBG (x : Gt) : Prop := ∀ (a : Nat) (rest : List UInt8),s.data.toList.drop a = (wrG x).data.toList ++ rest → okTl rest →
 ∃ b,RdG Γ s 22 [] a (.ok x b) ∧ a ≤ b ∧ b ≤ s.size ∧ s.data.toList.drop b = rest
def itG (rest : List UInt8) : List ByteArray → List Gt → List UInt8
 | w :: _,[x]=>w.data.toList ++ (58 :: ((wrG x).data.toList ++ (125 :: rest)))
 | w :: ls,x :: y :: K=>w.data.toList ++ (58 :: ((wrG x).data.toList ++ (44 :: itG rest ls (y :: K))))
 | _,_=>[]
theorem loopG_back (rest : List UInt8) : ∀ (K' : List Gt) (ls' : List ByteArray) (L : List ByteArray) (K : List Gt) (a : Nat),K'.length = ls'.length → K' ≠ [] → labelsB (L ++ ls') = true → (∀ x ∈ K',RBG Γ s x) →
 s.data.toList.drop a = itG rest ls' K' → ∃ b,CLp Γ s L K a (some (L ++ ls',K ++ K')) b ∧ a ≤ b ∧ b ≤ s.size ∧ s.data.toList.drop b = rest
 | [],ls',L,K,a,hlen,hne,hlab,ih,h=>absurd rfl hne
 | x :: K',[],L,K,a,hlen,hne,hlab,ih,h=>by simp at hlen
 | x :: K',w :: ls',L,K,a,hlen,hne,hlab,ih,h=>by
  have hok:=okL_of hlab
  have hnm:=labels_names hlab w (by simp)
  cases K' with
  | nil =>
   have hls : ls' = []:=by
    simp only [List.length_cons,List.length_nil] at hlen
    exact List.eq_nil_of_length_eq_zero (by omega)
   subst hls
   rw [itG] at h
   obtain ⟨g1,g2,g3,g4,g5,g6⟩:=wrd h (name_let hnm) (name_size hnm).2 (noLet_c (by decide))
   obtain ⟨q1,q2,q3,q4,q5⟩:=sgn g5 (by decide)
   have e0:=pB_eq s a
   have hc : isB s (wAt s a + (wOf s a).size) 58 = true:=by rw [← e0,q5];rfl
   obtain ⟨b1,r1,r2,r3,r4⟩:=ih x (by simp) _ _ q4 (.inr ⟨_,_,rfl,.inr rfl⟩)
   obtain ⟨p1,p2,p3,p4,p5⟩:=sgn r4 (by decide)
   have e:=CLp.done L K a (by rw [g3];exact hok) hc x b1 (by omega) r3 (by rw [← e0,q2];exact r1) (by rw [p5];rfl) (by rw [p5];rfl)
   rw [g3,p2] at e
   exact ⟨_,e,by omega,by omega,p4⟩
  | cons y K'' =>
   rw [itG] at h
   obtain ⟨g1,g2,g3,g4,g5,g6⟩:=wrd h (name_let hnm) (name_size hnm).2 (noLet_c (by decide))
   obtain ⟨q1,q2,q3,q4,q5⟩:=sgn g5 (by decide)
   have e0:=pB_eq s a
   have hc : isB s (wAt s a + (wOf s a).size) 58 = true:=by rw [← e0,q5];rfl
   obtain ⟨b1,r1,r2,r3,r4⟩:=ih x (by simp) _ _ q4 (.inr ⟨_,_,rfl,.inl rfl⟩)
   obtain ⟨p1,p2,p3,p4,p5⟩:=sgn r4 (by decide)
   obtain ⟨b2,u1,u2,u3,u4⟩:=loopG_back rest (y :: K'') ls' (L ++ [w]) (K ++ [x]) (b1 + 1) (by simpa using hlen) (by simp) (by rw [List.append_assoc];exact hlab) (fun z hz=>ih z (by simp only [List.mem_cons] at hz ⊢;exact .inr hz)) p4
   have e:=CLp.more L K a (by rw [g3];exact hok) hc x b1 (by omega) r3 (by rw [← e0,q2];exact r1) (by rw [p5];rfl) _ _ (by rw [g3,p2];exact u1)
   rw [List.append_assoc,List.append_assoc] at e
   exact ⟨b2,e,by omega,u3,u4⟩
theorem tailG_text (rest : List UInt8) : ∀ (ls : List ByteArray) (K : List Gt) (w : ByteArray) (x : Gt),K.length = ls.length →
 (itemB w (wrG x)).data.toList ++ (Lib.joinTail [44] ((List.zipWith itemB ls (wrGs K)).map (·.data.toList)) ++ (125 :: rest)) = itG rest (w :: ls) (x :: K)
 | [],[],w,x,hl=>by
  have e : (⟨#[58]⟩ : ByteArray).data.toList = [58]:=rfl
  rw [itG]
  simp only [itemB,app_data,e,List.zipWith_nil_left,List.map_nil,Lib.joinTail,List.flatten_nil,List.append_nil,List.nil_append,List.append_assoc,List.cons_append]
 | [],y :: K,w,x,hl=>by simp at hl
 | u :: ls,[],w,x,hl=>by simp at hl
 | u :: ls,y :: K,w,x,hl=>by
  have ih:=tailG_text rest ls K u y (by simpa using hl)
  have e : (⟨#[58]⟩ : ByteArray).data.toList = [58]:=rfl
  have hj : ∀ (z : List UInt8) (r : List (List UInt8)),Lib.joinTail [44] (z :: r) = 44 :: (z ++ Lib.joinTail [44] r):=fun z r=>by simp [Lib.joinTail]
  rw [itG, ← ih]
  simp only [wrGs,List.zipWith_cons_cons,List.map_cons,hj]
  simp only [itemB,app_data,e,List.append_nil,List.nil_append,List.append_assoc,List.cons_append]
theorem itemsG_text (rest : List UInt8) (ls : List ByteArray) (K : List Gt) (hl : K.length = ls.length) (h0 : K ≠ []) :
 (joinB (List.zipWith itemB ls (wrGs K))).data.toList ++ (125 :: rest) = itG rest ls K:=by
 cases K with
 | nil=>exact absurd rfl h0
 | cons x K =>
  cases ls with
  | nil=>simp at hl
  | cons w ls =>
   rw [← tailG_text rest ls K w x (by simpa using hl)]
   have e : (joinB (List.zipWith itemB (w :: ls) (wrGs (x :: K)))).data.toList = (itemB w (wrG x)).data.toList ++ Lib.joinTail [44] ((List.zipWith itemB ls (wrGs K)).map (·.data.toList)):=by
    simp only [wrGs,List.zipWith_cons_cons,joinB,packS,List.map_cons,Lib.join_cons]
   rw [e,List.append_assoc]
include hs hG in
theorem rdG_back {x : Gt} (h : OkG x) : RBG Γ s x:=by
 induction h with
 | nil =>
  intro a rest hd hr
  rw [wg_end] at hd
  obtain ⟨g1,g2,g3,g4,g5,g6⟩:=wrd hd (by decide) (by decide) (okTl_no hr)
  exact ⟨_,one_end Γ s hs a g1 (by rw [g3];decide +kernel) (by rw [g3];exact beq_self_eq_true _),by omega,g6,g5⟩
 | send fr to so x hr0 h1 h3 hx ih =>
  intro a rest hd hr
  have r:=roles_two hr0
  obtain ⟨f1,f2,f3,f4,f5⟩:=role_name r.1
  obtain ⟨t1,t2,t3, -, -⟩:=role_name r.2
  obtain ⟨hix,hlt,hz⟩:=sort_facts h1 h3
  have e62 : (⟨#[62]⟩ : ByteArray).data.toList = [62]:=rfl
  have e58 : (⟨#[58]⟩ : ByteArray).data.toList = [58]:=rfl
  have e46 : (⟨#[46]⟩ : ByteArray).data.toList = [46]:=rfl
  rw [wg_send,app_data,app_data,app_data,app_data,app_data,app_data,e62,e58,e46] at hd
  simp only [List.append_assoc,List.cons_append,List.nil_append] at hd
  obtain ⟨g1,g2,g3,g4,g5,g6⟩:=wrd hd f2 f3 (noLet_c (by decide))
  obtain ⟨q1,q2,q3,q4,q5⟩:=sgn g5 (by decide)
  obtain ⟨k1,k2,k3,k4,k5,k6⟩:=wrd q4 t2 t3 (noLet_c (by decide))
  obtain ⟨m1,m2,m3,m4,m5⟩:=sgn k5 (by decide)
  obtain ⟨n1,n2,n3,n4,n5,n6⟩:=wrd m4 hlt hz (noLet_c (by decide))
  obtain ⟨p1,p2,p3,p4,p5⟩:=sgn n5 (by decide)
  obtain ⟨b,u1,u2,u3,u4⟩:=ih _ _ p4 hr
  have A3 : wAt s (pB s a) + 1 = pB s a + 1:=by rw [q2]
  have A5 : wAt s (pB s (wAt s (pB s a) + 1)) + 1 = pB s (pB s a + 1) + 1:=by rw [A3,m2]
  have e:=one_sendok Γ s hs a g1 (by rw [g3];exact f1) (by rw [g3];exact f4) (by rw [g3];exact f5) (by rw [q5];rfl) (by rw [g3];exact r.1) (by rw [A3,g3,k3];exact other_of hr0) (by rw [A3,m5];rfl) (by rw [A3,m5];rfl) hG (by rw [A5,n3,hix];exact decide_eq_true (by omega)) (by rw [A5,p5];rfl) x b (by rw [A5,p2];exact u1)
  rw [A5,A3,g3,k3,n3,hix] at e
  exact ⟨b,e,by omega,u3,u4⟩
 | pick fr to ls l hr0 hl hn h ih =>
  intro a rest hd hr
  have r:=roles_two hr0
  obtain ⟨f1,f2,f3,f4,f5⟩:=role_name r.1
  obtain ⟨t1,t2,t3, -, -⟩:=role_name r.2
  have hne : l ≠ []:=by
   intro hz
   have:=labels_pos hl
   rw [hz,List.length_nil] at hn
   omega
  have e62 : (⟨#[62]⟩ : ByteArray).data.toList = [62]:=rfl
  have e123 : (⟨#[123]⟩ : ByteArray).data.toList = [123]:=rfl
  have e125 : (⟨#[125]⟩ : ByteArray).data.toList = [125]:=rfl
  rw [wg_pick,app_data,app_data,app_data,app_data,app_data,e62,e123,e125] at hd
  simp only [List.append_assoc,List.cons_append,List.nil_append] at hd
  rw [itemsG_text rest ls l hn hne] at hd
  obtain ⟨g1,g2,g3,g4,g5,g6⟩:=wrd hd f2 f3 (noLet_c (by decide))
  obtain ⟨q1,q2,q3,q4,q5⟩:=sgn g5 (by decide)
  obtain ⟨k1,k2,k3,k4,k5,k6⟩:=wrd q4 t2 t3 (noLet_c (by decide))
  obtain ⟨m1,m2,m3,m4,m5⟩:=sgn k5 (by decide)
  obtain ⟨b,u1,u2,u3,u4⟩:=loopG_back Γ s rest l ls [] [] _ hn hne hl ih m4
  have A3 : wAt s (pB s a) + 1 = pB s a + 1:=by rw [q2]
  have e:=one_pickok Γ s hs a g1 (by rw [g3];exact f1) (by rw [g3];exact f4) (by rw [g3];exact f5) (by rw [q5];rfl) (by rw [g3];exact r.1) (by rw [A3,g3,k3];exact other_of hr0) (by rw [A3,m5];rfl) b _ _ (by rw [A3,m2];exact u1)
  rw [A3,g3,k3] at e
  exact ⟨b,e,by omega,u3,u4⟩
 | bind nm x hn hx ih =>
  intro a rest hd hr
  have hp:=var_parts hn
  have e46 : (⟨#[46]⟩ : ByteArray).data.toList = [46]:=rfl
  have ec : (⟨#[114,101,99,32]⟩ : ByteArray).data.toList = (⟨#[114,101,99]⟩ : ByteArray).data.toList ++ [32]:=rfl
  rw [wg_bind,app_data,app_data,app_data,ec,e46] at hd
  simp only [List.append_assoc,List.cons_append,List.nil_append] at hd
  obtain ⟨g1,g2,g3,g4,g5,g6⟩:=wrd (w:=⟨#[114,101,99]⟩) hd (by decide) (by decide) (noLet_c (by decide))
  have g5' : s.data.toList.drop (pB s a) = bl 1 ++ (nm.data.toList ++ (46 :: ((wrG x).data.toList ++ rest))):=by rw [g5];rfl
  obtain ⟨u1,u2,u3,u4,u5, -⟩:=at_word g5' (name_let hp.1) (name_size hp.1).2 (noLet_c (by decide))
  have eP:=pB_eq s (pB s a)
  rw [u4] at eP
  rw [← eP] at u5
  obtain ⟨q1,q2,q3,q4,q5⟩:=sgn u5 (by decide)
  obtain ⟨b,r1,r2,r3,r4⟩:=ih _ _ q4 hr
  have e:=one_recok Γ s hs a g1 (by rw [g3];decide +kernel) (by rw [g3];decide +kernel) (by rw [g3];exact beq_self_eq_true _) (by rw [u4];exact hn) (by rw [q5];rfl) x b (by rw [q2];exact r1)
  rw [u4] at e
  exact ⟨b,e,by omega,r3,r4⟩
 | var nm hn =>
  intro a rest hd hr
  have hp:=var_parts hn
  rw [wg_var] at hd
  obtain ⟨g1,g2,g3,g4,g5,g6⟩:=wrd hd (name_let hp.1) (name_size hp.1).2 (okTl_no hr)
  obtain ⟨k1,k2⟩:=okTl_at g6 g5 hr
  have e:=one_var Γ s hs a g1 (by rw [g3];exact hp.1) (by rw [g3];exact hp.2.1) (by rw [g3];exact hp.2.2) k2
  rw [g3,k1] at e
  exact ⟨_,e,by omega,g6,g5⟩
include hs hG in
theorem gparse_back {x : Gt} (hx : gCheck x = 0) (h : s = wrG x) : DFn Tryd.prog Γ 8 [sD s] (.tup [x.d,.agg [iD 0,iD 0]]):=by
 obtain ⟨b,r1,r2,r3,r4⟩:=rdG_back Γ s hs hG (okG_check hx).1 0 [] (by rw [List.drop_zero,List.append_nil,h]) (.inl rfl)
 have hw : wAt s b = b:=by unfold wAt;rw [r4];rfl
 have hl:=congrArg List.length r4
 rw [List.length_drop,sizeL,List.length_nil] at hl
 exact gparse_ok Γ s hs x b r3 r1 (by omega) hx
end
end Go.Proofs.YtlnmkdbcdcknjaaDoor.GG
