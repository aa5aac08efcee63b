/- The key of a node tells its class; so the classes grow. -/
import Derived.Test.YtdcplkefmpjppaaGreatDoorH7
set_option linter.unusedVariables false
set_option linter.unusedSimpArgs false
namespace Go.Proofs.YtdcplkefmpjppaaGreatDoor
open Go.RowKit Go.Sw

def isLet (b : UInt8) : Bool:=abcS.data.toList.contains b
theorem let_range : ∀ b : UInt8,isLet b = true → 97 ≤ b.toNat ∧ b.toNat ≤ 122:=by
 intro b h
 have hm : b ∈ abcS.data.toList:=by simpa [isLet] using h
 have : ∀ b ∈ abcS.data.toList,97 ≤ b.toNat ∧ b.toNat ≤ 122:=by decide
 exact this b hm
theorem dw_nil {p : UInt8 → Bool} : ∀ {l : List UInt8},l.dropWhile p = [] → ∀ b ∈ l,p b = true
 | [],_,b,hb=>by cases hb
 | x :: l,h,b,hb=>by
  by_cases hx : p x = true
  · rw [List.dropWhile_cons_of_pos hx] at h
    rcases List.mem_cons.1 hb with rfl | hb
    · exact hx
    · exact dw_nil h b hb
  · rw [List.dropWhile_cons_of_neg hx] at h;cases h
theorem trim_let {l : List UInt8} (h : Lib.trimS l abcS.data.toList = []) : ∀ b ∈ l,isLet b = true:=by
 unfold Lib.trimS Lib.trimLeftS Lib.trimRightS at h
 have h1 : ∀ b ∈ (l.reverse.dropWhile isLet).reverse,isLet b = true:=by
  intro b hb
  have:=dw_nil h b hb
  exact this
 have h2 : l.reverse.dropWhile isLet = []:=by
  cases hd : l.reverse.dropWhile isLet with
  | nil=>rfl
  | cons c r =>
   exfalso
   have hc:=List.head?_dropWhile_not (p:=isLet) (l:=l.reverse)
   rw [hd] at hc
   simp only [List.head?_cons,Option.all_some] at hc
   have:=h1 c (by rw [hd];simp)
   simp [this] at hc
 intro b hb
 exact dw_nil h2 b (by simpa using hb)
theorem name_let {w : ByteArray} (h : isNameB w = true) : ∀ b ∈ w.data.toList,isLet b = true:=by
 unfold isNameB at h
 split at h
 · cases h
 split at h
 · cases h
 split at h
 · rename_i h3
   rw [Lib.toList_data] at h3
   unfold trimS packS at h3
   exact trim_let h3
 · cases h
abbrev bs (x : ByteArray) : List UInt8:=x.data.toList
theorem bs_app (x y : ByteArray) : bs (x ++ y) = bs x ++ bs y:=by simp [bs,ByteArray.data_append]
def flW (ws : List (List UInt8)) : List UInt8:=ws.flatMap fun w=>32 :: w
theorem flW_app (a b : List (List UInt8)) : flW (a ++ b) = flW a ++ flW b:=by simp [flW]
theorem catL_bs : ∀ (l : List ByteArray) (a : ByteArray),bs (catL a l) = bs a ++ flW (l.map bs)
 | [],a=>by simp [catL,flW]
 | x :: l,a=>by
  have:=catL_bs l (a ++ (spS ++ x))
  simp only [catL,List.foldl_cons] at this ⊢
  rw [this,bs_app,bs_app]
  simp [flW,bs]
theorem tw_word {w A : List UInt8} (hw : ∀ b ∈ w,b ≠ 32) (hA : A = [] ∨ ∃ r,A = 32 :: r) : (w ++ A).takeWhile (· != 32) = w ∧ (w ++ A).dropWhile (· != 32) = A:=by
 induction w with
 | nil =>
  rcases hA with rfl | ⟨r,rfl⟩
  · simp
  · simp
 | cons b w ih =>
  have h1:=ih (fun x hx=>hw x (by simp [hx]))
  have h2 : (b != 32) = true:=by simpa using hw b (by simp)
  simp only [List.cons_append,List.takeWhile_cons,List.dropWhile_cons,h2,if_true]
  exact ⟨by rw [h1.1],h1.2⟩
theorem flW_head (ws : List (List UInt8)) : flW ws = [] ∨ ∃ r,flW ws = 32 :: r:=by
 cases ws with
 | nil=>exact .inl rfl
 | cons w ws=>exact .inr ⟨_,by simp [flW];rfl⟩
theorem flW_inj : ∀ (ws ws' : List (List UInt8)),(∀ w ∈ ws, ∀ b ∈ w,b ≠ 32) → (∀ w ∈ ws', ∀ b ∈ w,b ≠ 32) → flW ws = flW ws' → ws = ws'
 | [],[],_,_,_=>rfl
 | [],w :: ws',_,_,h=>by simp [flW] at h
 | w :: ws,[],_,_,h=>by simp [flW] at h
 | w :: ws,w' :: ws',h1,h2,h=>by
  have e : w ++ flW ws = w' ++ flW ws':=by simpa [flW] using h
  have p:=tw_word (h1 w (by simp)) (flW_head ws)
  have q:=tw_word (h2 w' (by simp)) (flW_head ws')
  rw [e] at p
  rw [← p.1,q.1,flW_inj ws ws' (fun x hx=>h1 x (by simp [hx])) (fun x hx=>h2 x (by simp [hx])) (by rw [← p.2,q.2])]
def isDig (w : List UInt8) : Prop := ∃ b r,w = b :: r ∧ 48 ≤ b.toNat ∧ b.toNat ≤ 57
theorem split_inj : ∀ (ls ls' : List (List UInt8)) (d d' : List UInt8) (r r' : List (List UInt8)),(∀ l ∈ ls, ¬ isDig l) → (∀ l ∈ ls', ¬ isDig l) → isDig d → isDig d' → ls ++ d :: r = ls' ++ d' :: r' → ls = ls' ∧ d = d' ∧ r = r'
 | [],[],d,d',r,r',_,_,_,_,h=>by simpa using h
 | [],l :: ls',d,d',r,r',_,h2,h3,_,h=>by
  simp only [List.nil_append,List.cons_append,List.cons.injEq] at h
  exact absurd (h.1 ▸ h3) (h2 l (by simp))
 | l :: ls,[],d,d',r,r',h1,_,_,h4,h=>by
  simp only [List.nil_append,List.cons_append,List.cons.injEq] at h
  exact absurd (h.1 ▸ h4) (h1 l (by simp))
 | l :: ls,l' :: ls',d,d',r,r',h1,h2,h3,h4,h=>by
  simp only [List.cons_append,List.cons.injEq] at h
  have:=split_inj ls ls' d d' r r' (fun x hx=>h1 x (by simp [hx])) (fun x hx=>h2 x (by simp [hx])) h3 h4 h.2
  exact ⟨by rw [h.1,this.1],this.2⟩
theorem num_bs (n : Int) : bs (numS n) = Lib.decDigits n.toNat:=by simp [numS,packS,bs]
theorem num_dig {n : Int} (h0 : 0 ≤ n) (h1 : n < 100) : isDig (bs (numS n)) ∧ ∀ b ∈ bs (numS n),b ≠ 32:=by
 rw [num_bs]
 obtain ⟨m,rfl⟩ : ∃ m : Nat,n = (m : Int):=⟨n.toNat,by omega⟩
 have hm : m < 100:=by omega
 simp only [Int.toNat_natCast]
 clear h0 h1
 by_cases h : m < 10
 · rw [Lib.decDigits_one h]
   have : (UInt8.ofNat (48 + m)).toNat = 48 + m:=by simp;omega
   refine ⟨⟨_,[],rfl,by omega,by omega⟩,fun b hb=>?_⟩
   rw [List.mem_singleton] at hb
   subst hb
   intro e
   rw [e] at this
   simp at this
   omega
 · rw [Lib.decDigits_two h hm]
   have t1 : (UInt8.ofNat (48 + m / 10)).toNat = 48 + m / 10:=by simp;omega
   have t2 : (UInt8.ofNat (48 + m % 10)).toNat = 48 + m % 10:=by simp;omega
   refine ⟨⟨_,_,rfl,by omega,by omega⟩,fun b hb=>?_⟩
   rcases List.mem_cons.1 hb with rfl | hb
   · intro e;rw [e] at t1;simp at t1;omega
   · rw [List.mem_singleton] at hb
     subst hb
     intro e;rw [e] at t2;simp at t2;omega
theorem num_inj {n m : Int} (h0 : 0 ≤ n) (h1 : n < 100) (h2 : 0 ≤ m) (h3 : m < 100) (h : bs (numS n) = bs (numS m)) : n = m:=by
 rw [num_bs,num_bs] at h
 obtain ⟨a,rfl⟩ : ∃ a : Nat,n = (a : Int):=⟨n.toNat,by omega⟩
 obtain ⟨b,rfl⟩ : ∃ b : Nat,m = (b : Int):=⟨m.toNat,by omega⟩
 simp only [Int.toNat_natCast] at h
 have ha : a < 100:=by omega
 have hb : b < 100:=by omega
 have key : ∀ x y : Nat,x < 100 → y < 100 → UInt8.ofNat (48 + x) = UInt8.ofNat (48 + y) → x = y:=fun x y hx hy e=>by
  have:=congrArg UInt8.toNat e
  simp at this
  omega
 by_cases hx : a < 10 <;> by_cases hy : b < 10
 · rw [Lib.decDigits_one hx,Lib.decDigits_one hy] at h
   have:=key a b ha hb (by simpa using h)
   omega
 · rw [Lib.decDigits_one hx,Lib.decDigits_two hy hb] at h
   simp at h
 · rw [Lib.decDigits_two hx ha,Lib.decDigits_one hy] at h
   simp at h
 · rw [Lib.decDigits_two hx ha,Lib.decDigits_two hy hb] at h
   simp only [List.cons.injEq,and_true] at h
   have e1:=key _ _ (by omega) (by omega) h.1
   have e2:=key _ _ (by omega) (by omega) h.2
   omega
theorem getD_range {cl : List Int} (hc : ∀ c ∈ cl,0 ≤ c ∧ c < 100) (t : Nat) : 0 ≤ cl.getD t 0 ∧ cl.getD t 0 < 100:=by
 rw [List.getD_eq_getElem?_getD]
 cases h : cl[t]? with
 | none=>simp
 | some c=>exact hc c (List.mem_of_getElem? h)
def keyW (cl : List Int) (i : Nat) (n : Nd) : List (List UInt8):=[bs (numS n.k),bs (numS n.so)] ++ (n.ls.map bs ++ bs (numS (cl.getD i 0)) :: (n.to.map fun k=>numS (cl.getD k.toNat 0)).map bs)
theorem key_bs (cl : List Int) (i : Nat) (n : Nd) : flW (keyW cl i n) = 32 :: bs (keyOf cl i n):=by
 unfold keyW keyOf
 rw [catL_bs,bs_app,catL_bs,bs_app,bs_app,bs_app,flW_app,flW_app]
 simp [flW,bs]
theorem name_word {w : ByteArray} (h : isNameB w = true) : (∀ b ∈ bs w,b ≠ 32) ∧ ¬ isDig (bs w):=by
 have h1:=name_let h
 refine ⟨fun b hb e=>?_,fun hd=>?_⟩
 · have:=let_range b (h1 b hb)
   rw [e] at this
   simp at this
 · obtain ⟨b,r,e,g1,g2⟩:=hd
   have:=let_range b (h1 b (by show b ∈ bs w;rw [e];simp))
   omega
theorem key_class {M : Nat} {cl : List Int} (hc : ∀ c ∈ cl,0 ≤ c ∧ c < 100) {i j : Nat} {n m : Nd} (hn : NdG M n) (hm : NdG M m) (h : keyOf cl i n = keyOf cl j m) : cl.getD i 0 = cl.getD j 0:=by
 have e : flW (keyW cl i n) = flW (keyW cl j m):=by rw [key_bs,key_bs,h]
 have words : ∀ (i : Nat) (n : Nd),NdG M n → ∀ w ∈ keyW cl i n, ∀ b ∈ w,b ≠ 32:=fun i n hn w hw=>by
  unfold keyW at hw
  simp only [List.cons_append,List.nil_append,List.mem_cons,List.mem_append,List.map_map,List.mem_map] at hw
  rcases hw with rfl | rfl | ⟨x,hx,rfl⟩ | rfl | ⟨x,hx,rfl⟩
  · exact (num_dig hn.ok.k.1 hn.ok.k.2).2
  · exact (num_dig hn.ok.so.1 hn.ok.so.2).2
  · exact (name_word (hn.nm x hx)).1
  · exact (num_dig (getD_range hc i).1 (getD_range hc i).2).2
  · exact (num_dig (getD_range hc _).1 (getD_range hc _).2).2
 have e2:=flW_inj _ _ (words i n hn) (words j m hm) e
 unfold keyW at e2
 simp only [List.cons_append,List.nil_append,List.cons.injEq] at e2
 have e3:=split_inj _ _ _ _ _ _ (fun l hl=>by
  obtain ⟨x,hx,rfl⟩:=List.mem_map.1 hl
  exact (name_word (hn.nm x hx)).2) (fun l hl=>by
  obtain ⟨x,hx,rfl⟩:=List.mem_map.1 hl
  exact (name_word (hm.nm x hx)).2) (num_dig (getD_range hc i).1 (getD_range hc i).2).1 (num_dig (getD_range hc j).1 (getD_range hc j).2).1 e2.2.2
 exact num_inj (getD_range hc i).1 (getD_range hc i).2 (getD_range hc j).1 (getD_range hc j).2 e3.2.1
theorem ixK_get {K : ByteArray} : ∀ {Ks : List ByteArray} {i p : Nat},ixK K Ks i = some p → Ks[p - i]? = some K
 | x :: Ks,i,p,h=>by
  unfold ixK at h
  cases hb : K == x with
  | true =>
   rw [hb] at h
   have hx:=(Go.MapKept.bytes_beq K x).1 hb
   simp at h
   subst h
   simp [hx]
  | false =>
   rw [hb,cond_false] at h
   have h1:=ix_lt h
   have:=ixK_get h
   rw [show p - i = (p - (i + 1)) + 1 by omega,List.getElem?_cons_succ]
   exact this
theorem allK_sub : ∀ (l : List ByteArray), ∀ K ∈ allK l,K ∈ l:=fun l=>by
 induction l using snoc_ind with
 | h0=>simp [allK]
 | hs l x ih =>
  intro K h
  rw [allK_snoc] at h
  unfold addK at h
  split at h
  · exact List.mem_append_left _ (ih K h)
  · rcases List.mem_append.1 h with h | h
    · exact List.mem_append_left _ (ih K h)
    · exact List.mem_append_right _ h
theorem ixK_none_mem {K : ByteArray} : ∀ {Ks : List ByteArray} {i : Nat},ixK K Ks i = none → K ∉ Ks
 | [],i,_=>by simp
 | x :: Ks,i,h=>by
  unfold ixK at h
  cases hb : K == x with
  | true=>rw [hb] at h;cases h
  | false =>
   rw [hb,cond_false] at h
   simp only [List.mem_cons,not_or]
   refine ⟨fun e=>?_,ixK_none_mem h⟩
   rw [(Go.MapKept.bytes_beq K x).2 e] at hb;cases hb
theorem allK_nodup (l : List ByteArray) : (allK l).Nodup:=by
 induction l using snoc_ind with
 | h0=>simp [allK]
 | hs l x ih =>
  rw [allK_snoc]
  unfold addK
  split
  · exact ih
  · rename_i h
    refine List.nodup_append.2 ⟨ih,by simp,fun a h1 b h2 hab=>?_⟩
    obtain rfl : b = x:=by simpa using h2
    exact ixK_none_mem h (hab ▸ h1)
theorem grow {g : List Nd} (hg : ∀ n ∈ g,NdG g.length n) (h60 : g.length ≤ 60) (cl : List Int) (hl : cl.length = g.length) (hc : ∀ c ∈ cl,0 ≤ c ∧ c < 100) :
 (allK (keysF cl 0 g)).length ≤ (allK (keysF (nxtK (keysF cl 0 g)) 0 g)).length:=by
 obtain ⟨ks,hks⟩ : ∃ ks,keysF cl 0 g = ks:=⟨_,rfl⟩
 rw [hks]
 have hkl : ks.length = g.length:=by rw [← hks,keysF_len]
 obtain ⟨cl',hcl'⟩ : ∃ c,nxtK ks = c:=⟨_,rfl⟩
 have hcl2 : cl'.length = g.length:=by rw [← hcl',nxtK_len,hkl]
 rw [hcl']
 obtain ⟨ks',hks'⟩ : ∃ k,keysF cl' 0 g = k:=⟨_,rfl⟩
 have hkl' : ks'.length = g.length:=by rw [← hks',keysF_len]
 rw [hks']
 have hc' : ∀ c ∈ cl',0 ≤ c ∧ c < 100:=fun c h=>by
  rw [← hcl'] at h
  have h1:=nxtK_range ks c h
  have h2:=allK_len ks
  omega
 classical
 -- of each word a node
 have pick : ∀ K ∈ allK ks, ∃ i,ks[i]? = some K:=fun K h=>by
  obtain ⟨i,hi,e⟩:=List.mem_iff_getElem.1 (allK_sub ks K h)
  exact ⟨i,by rw [← e];exact List.getElem?_eq_getElem hi⟩
 let f : ByteArray → Int:=fun K=>if h : K ∈ allK ks then plK (ks'.getD (pick K h).choose ⟨#[]⟩) (allK ks') else 0
 have hf : ∀ K ∈ allK ks, ∃ i K',ks[i]? = some K ∧ ks'[i]? = some K' ∧ f K = plK K' (allK ks'):=fun K h=>by
  have hi:=(pick K h).choose_spec
  have hlt:=(List.getElem?_eq_some_iff.1 hi).1
  refine ⟨(pick K h).choose,ks'[(pick K h).choose]'(by omega),hi,List.getElem?_eq_getElem (by omega),?_⟩
  show (if h : K ∈ allK ks then plK (ks'.getD (pick K h).choose ⟨#[]⟩) (allK ks') else 0) = _
  rw [dif_pos h,List.getD_eq_getElem?_getD,List.getElem?_eq_getElem (by omega),Option.getD_some]
 have:=pigeon (allK ks').length ((allK ks).map f) ?_ ?_
 · simpa using this
 · rw [List.Nodup,List.pairwise_map]
   have hn:=allK_nodup ks
   rw [List.Nodup] at hn
   refine hn.imp_of_mem fun {K1 K2} h1 h2 hne he=>hne ?_
   obtain ⟨i,A,a1,a2,a3⟩:=hf K1 h1
   obtain ⟨j,B,b1,b2,b3⟩:=hf K2 h2
   obtain ⟨p,hp⟩:=allK_mem (List.mem_of_getElem? a2)
   obtain ⟨q,hq⟩:=allK_mem (List.mem_of_getElem? b2)
   have hpq : p = q:=by
    rw [a3,b3] at he
    unfold plK at he
    rw [hp,hq] at he
    simp only [Option.getD_some] at he
    omega
   subst hpq
   have hAB : A = B:=by
    have e1:=ixK_get hp
    have e2:=ixK_get hq
    rw [e1] at e2
    exact Option.some.inj e2
   -- so the classes are the same
   have hil:=(List.getElem?_eq_some_iff.1 a1).1
   have hjl:=(List.getElem?_eq_some_iff.1 b1).1
   have ki:=keysF_get cl' g 0 i g[i] (List.getElem?_eq_getElem (by omega))
   have kj:=keysF_get cl' g 0 j g[j] (List.getElem?_eq_getElem (by omega))
   rw [hks',Nat.zero_add,a2] at ki
   rw [hks',Nat.zero_add,b2] at kj
   have hcls:=key_class hc' (hg _ (List.getElem_mem _)) (hg _ (List.getElem_mem _)) (show keyOf cl' i g[i] = keyOf cl' j g[j] by
    rw [← Option.some.inj ki, ← Option.some.inj kj,hAB])
   have cls : ∀ (i : Nat) (K : ByteArray),ks[i]? = some K → cl'.getD i 0 = plK K (allK ks):=fun i K h=>by
    rw [← hcl']
    unfold nxtK
    rw [List.getD_eq_getElem?_getD,List.getElem?_map,h];rfl
   rw [cls i K1 a1,cls j K2 b1] at hcls
   obtain ⟨p1,hp1⟩:=allK_mem (List.mem_of_getElem? a1)
   obtain ⟨q1,hq1⟩:=allK_mem (List.mem_of_getElem? b1)
   unfold plK at hcls
   rw [hp1,hq1] at hcls
   simp only [Option.getD_some] at hcls
   have : p1 = q1:=by omega
   subst this
   have e1:=ixK_get hp1
   have e2:=ixK_get hq1
   rw [e1] at e2
   exact Option.some.inj e2
 · intro v hv
   obtain ⟨K,hK,rfl⟩:=List.mem_map.1 hv
   obtain ⟨i,A,a1,a2,a3⟩:=hf K hK
   rw [a3]
   refine plK_range fun h=>?_
   obtain ⟨p,hp⟩:=allK_mem (List.mem_of_getElem? a2)
   rw [h] at hp
   cases hp
end Go.Proofs.YtdcplkefmpjppaaGreatDoor
/- graph.Of, below's Is and Why for all types: the walks and the plain facts joined. -/
namespace Go.Proofs.YtdcplkefmpjppaaGreatDoor
open Go.RowKit Go.Sw

theorem of_fn (Γ : Gl) (x : Tp) : OfFn Γ x:=by
 refine of_fn0 Γ x (fun h=>?_) (fun h=>?_)
 · have:=raw_good h
   exact ⟨add_all Γ this.1,this.2.1,this.2.2.1⟩
 · obtain ⟨h1,h2,h3,h4,h5,h6⟩:=raw_good h
   have hp:=parted_fn Γ 100 (Nat.le_refl _) (by decide) (fun n h0 h1=>itoa_fn Γ n h0 (by omega)) (rawP x) (by show (rawP x).length ≤ 100;unfold rawP;omega) (fun n hn=>(h6 n hn).ok) (fun cl hl hc=>grow h6 h5 cl hl (fun c h=>by have:=hc c h;omega))
   exact least_fn Γ (rawP x) (by show (rawP x).length ≤ 250;unfold rawP;omega) h4 (fun n hn=>(h6 n hn).ok) (parted_len _) hp
theorem ofP_good {x : Tp} (h : tCheck x = 0) : 0 < (ofP x).length ∧ (ofP x).length ≤ 60 ∧ ∀ n ∈ ofP x,NdG (ofP x).length n:=by
 obtain ⟨h1,h2,h3,h4,h5,h6⟩:=raw_good h
 unfold ofP
 rw [if_pos h]
 have:=least_good (g:=rawP x) h4 h6
 exact ⟨this.1,Nat.le_trans this.2.1 h5,this.2.2⟩
theorem gAt_mem {g : List Nd} {i : Int} (h0 : 0 ≤ i) (h1 : i < (g.length : Int)) : gAt g i ∈ g:=by
 unfold gAt
 rw [List.getD_eq_getElem?_getD,List.getElem?_eq_getElem (by omega),Option.getD_some]
 exact List.getElem_mem _
def sA : Tp:=.mk 2 1 noB [] [.mk 1 0 noB [] []]
def sB : Tp:=.mk 2 1 noB [] [.mk 2 1 noB [] [.mk 1 0 noB [] []]]
theorem first : wyL sA sB = [dotS] ∧ wyE sA sB = 0:=by
 decide +kernel
end Go.Proofs.YtdcplkefmpjppaaGreatDoor
