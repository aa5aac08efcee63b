/- The key of a node tells its class; so the classes grow. -/
import Derived.Test.YtgecnlcbdbaneaaDoorHP3
set_option linter.unusedVariables false
set_option linter.unusedSimpArgs false
namespace Go.Proofs.YtgecnlcbdbaneaaDoor
open Go.RowKit Go.Sw
open _root_.List renaming cons_append → za, mem_of_getElem? → zb, getElem?_eq_getElem → ze, nil_append → zf, getD_eq_getElem?_getD → zh, mem_singleton → zn, mem_cons → zo, mem_append_left → zq, Nodup → zu, getElem_mem → zx

def isLet (b : UInt8) : Bool:=yp0.data.toList.contains b
theorem xf4 : ∀ b : UInt8,isLet b = true → 97 ≤ b.toNat ∧ b.toNat ≤ 122:=by
 intro b h
 have hm : b ∈ yp0.data.toList:=by simpa [isLet] using h
 have : ∀ b ∈ yp0.data.toList,97 ≤ b.toNat ∧ b.toNat ≤ 122:=by decide
 exact this b hm
theorem ye1 {p : UInt8 → Bool} : ∀ {l : List UInt8},l.dropWhile p = [] → ∀ b ∈ l,p b = true
 | [],_,b,hb=>by cases hb
 | x :: l,h,b,hb=>by
  by_cases hx : p x = true
  · rw [List.dropWhile_cons_of_pos hx] at h
    rcases List.mem_cons.1 hb with rfl | hb
    · exact hx
    · exact ye1 h b hb
  · rw [List.dropWhile_cons_of_neg hx] at h;cases h
theorem ys6 {l : List UInt8} (h : Lib.trimS l yp0.data.toList = []) : ∀ b ∈ l,isLet b = true:=by
 unfold Lib.trimS Lib.trimLeftS Lib.trimRightS at h
 have h1 : ∀ b ∈ (l.reverse.dropWhile isLet).reverse,isLet b = true:=by
  intro b hb
  have:=ye1 h b hb
  exact this
 have h2 : l.reverse.dropWhile isLet = []:=by
  cases hd : l.reverse.dropWhile isLet with
  | nil=>rfl
  | cons c r =>
   exfalso
   have hc:=List.head?_dropWhile_not (p:=isLet) (l:=l.reverse)
   rw [hd] at hc
   simp only [List.head?_cons,Option.all_some] at hc
   have:=h1 c (by rw [hd];simp)
   simp [this] at hc
 intro b hb
 exact ye1 h2 b (by simpa using hb)
theorem yp5 {w : ByteArray} (h : qe8 w = true) : ∀ b ∈ w.data.toList,isLet b = true:=by
 unfold qe8 at h
 split at h
 · cases h
 split at h
 · cases h
 split at h
 · rename_i h3
   rw [Lib.toList_data] at h3
   unfold trimS xv1 at h3
   exact ys6 h3
 · cases h
abbrev bs (x : ByteArray) : List UInt8:=x.data.toList
theorem vr6 (x y : ByteArray) : bs (x ++ y) = bs x ++ bs y:=by simp [bs,ByteArray.data_append]
def flW (ws : List (List UInt8)) : List UInt8:=ws.flatMap fun w=>32 :: w
theorem ym5 (a b : List (List UInt8)) : flW (a ++ b) = flW a ++ flW b:=by simp [flW]
theorem xg6 : ∀ (l : List ByteArray) (a : ByteArray),bs (vg5 a l) = bs a ++ flW (l.map bs)
 | [],a=>by simp [vg5,flW]
 | x :: l,a=>by
  have:=xg6 l (a ++ (spS ++ x))
  simp only [vg5,List.foldl_cons] at this ⊢
  rw [this,vr6,vr6]
  simp [flW,bs]
theorem yb6 {w A : List UInt8} (hw : ∀ b ∈ w,b ≠ 32) (hA : A = [] ∨ ∃ r,A = 32 :: r) : (w ++ A).takeWhile (· != 32) = w ∧ (w ++ A).dropWhile (· != 32) = A:=by
 induction w with
 | nil =>
  rcases hA with rfl | ⟨r,rfl⟩
  · simp
  · simp
 | cons b w ih =>
  have h1:=ih (fun x hx=>hw x (by simp [hx]))
  have h2 : (b != 32) = true:=by simpa using hw b (by simp)
  simp only [za,List.takeWhile_cons,List.dropWhile_cons,h2,if_true]
  exact ⟨by rw [h1.1],h1.2⟩
theorem xs3 (ws : List (List UInt8)) : flW ws = [] ∨ ∃ r,flW ws = 32 :: r:=by
 cases ws with
 | nil=>exact .inl rfl
 | cons w ws=>exact .inr ⟨_,by simp [flW];rfl⟩
theorem xh4 : ∀ (ws ws' : List (List UInt8)),(∀ w ∈ ws, ∀ b ∈ w,b ≠ 32) → (∀ w ∈ ws', ∀ b ∈ w,b ≠ 32) → flW ws = flW ws' → ws = ws'
 | [],[],_,_,_=>rfl
 | [],w :: ws',_,_,h=>by simp [flW] at h
 | w :: ws,[],_,_,h=>by simp [flW] at h
 | w :: ws,w' :: ws',h1,h2,h=>by
  have e : w ++ flW ws = w' ++ flW ws':=by simpa [flW] using h
  have p:=yb6 (h1 w (by simp)) (xs3 ws)
  have q:=yb6 (h2 w' (by simp)) (xs3 ws')
  rw [e] at p
  rw [← p.1,q.1,xh4 ws ws' (fun x hx=>h1 x (by simp [hx])) (fun x hx=>h2 x (by simp [hx])) (by rw [← p.2,q.2])]
def xk1 (w : List UInt8) : Prop := ∃ b r,w = b :: r ∧ 48 ≤ b.toNat ∧ b.toNat ≤ 57
theorem vk6 : ∀ (ls ls' : List (List UInt8)) (d d' : List UInt8) (r r' : List (List UInt8)),(∀ l ∈ ls, ¬ xk1 l) → (∀ l ∈ ls', ¬ xk1 l) → xk1 d → xk1 d' → ls ++ d :: r = ls' ++ d' :: r' → ls = ls' ∧ d = d' ∧ r = r'
 | [],[],d,d',r,r',_,_,_,_,h=>by simpa using h
 | [],l :: ls',d,d',r,r',_,h2,h3,_,h=>by
  simp only [zf,za,List.cons.injEq] at h
  exact absurd (h.1 ▸ h3) (h2 l (by simp))
 | l :: ls,[],d,d',r,r',h1,_,_,h4,h=>by
  simp only [zf,za,List.cons.injEq] at h
  exact absurd (h.1 ▸ h4) (h1 l (by simp))
 | l :: ls,l' :: ls',d,d',r,r',h1,h2,h3,h4,h=>by
  simp only [za,List.cons.injEq] at h
  have:=vk6 ls ls' d d' r r' (fun x hx=>h1 x (by simp [hx])) (fun x hx=>h2 x (by simp [hx])) h3 h4 h.2
  exact ⟨by rw [h.1,this.1],this.2⟩
theorem vr8 (n : Int) : bs (qn3 n) = Lib.decDigits n.toNat:=by simp [qn3,xv1,bs]
theorem vf1 {n : Int} (h0 : 0 ≤ n) (h1 : n < 100) : xk1 (bs (qn3 n)) ∧ ∀ b ∈ bs (qn3 n),b ≠ 32:=by
 rw [vr8]
 obtain ⟨m,rfl⟩ : ∃ m : Nat,n = (m : Int):=⟨n.toNat,by omega⟩
 have hm : m < 100:=by omega
 simp only [Int.toNat_natCast]
 clear h0 h1
 by_cases h : m < 10
 · rw [Lib.decDigits_one h]
   have : (UInt8.ofNat (48 + m)).toNat = 48 + m:=by simp;omega
   refine ⟨⟨_,[],rfl,by omega,by omega⟩,fun b hb=>?_⟩
   rw [zn] at hb
   subst hb
   intro e
   rw [e] at this
   simp at this
   omega
 · rw [Lib.decDigits_two h hm]
   have t1 : (UInt8.ofNat (48 + m / 10)).toNat = 48 + m / 10:=by simp;omega
   have t2 : (UInt8.ofNat (48 + m % 10)).toNat = 48 + m % 10:=by simp;omega
   refine ⟨⟨_,_,rfl,by omega,by omega⟩,fun b hb=>?_⟩
   rcases List.mem_cons.1 hb with rfl | hb
   · intro e;rw [e] at t1;simp at t1;omega
   · rw [zn] at hb
     subst hb
     intro e;rw [e] at t2;simp at t2;omega
theorem num_inj {n m : Int} (h0 : 0 ≤ n) (h1 : n < 100) (h2 : 0 ≤ m) (h3 : m < 100) (h : bs (qn3 n) = bs (qn3 m)) : n = m:=by
 rw [vr8,vr8] at h
 obtain ⟨a,rfl⟩ : ∃ a : Nat,n = (a : Int):=⟨n.toNat,by omega⟩
 obtain ⟨b,rfl⟩ : ∃ b : Nat,m = (b : Int):=⟨m.toNat,by omega⟩
 simp only [Int.toNat_natCast] at h
 have ha : a < 100:=by omega
 have hb : b < 100:=by omega
 have key : ∀ x y : Nat,x < 100 → y < 100 → UInt8.ofNat (48 + x) = UInt8.ofNat (48 + y) → x = y:=fun x y hx hy e=>by
  have:=congrArg UInt8.toNat e
  simp at this
  omega
 by_cases hx : a < 10 <;> by_cases hy : b < 10
 · rw [Lib.decDigits_one hx,Lib.decDigits_one hy] at h
   have:=key a b ha hb (by simpa using h)
   omega
 · rw [Lib.decDigits_one hx,Lib.decDigits_two hy hb] at h
   simp at h
 · rw [Lib.decDigits_two hx ha,Lib.decDigits_one hy] at h
   simp at h
 · rw [Lib.decDigits_two hx ha,Lib.decDigits_two hy hb] at h
   simp only [List.cons.injEq,and_true] at h
   have e1:=key _ _ (by omega) (by omega) h.1
   have e2:=key _ _ (by omega) (by omega) h.2
   omega
theorem qg1 {cl : List Int} (hc : ∀ c ∈ cl,0 ≤ c ∧ c < 100) (t : Nat) : 0 ≤ cl.getD t 0 ∧ cl.getD t 0 < 100:=by
 rw [zh]
 cases h : cl[t]? with
 | none=>simp
 | some c=>exact hc c (zb h)
def xx7 (cl : List Int) (i : Nat) (n : Nd) : List (List UInt8):=[bs (qn3 n.k),bs (qn3 n.so)] ++ (n.ls.map bs ++ bs (qn3 (cl.getD i 0)) :: (n.to.map fun k=>qn3 (cl.getD k.toNat 0)).map bs)
theorem xl3 (cl : List Int) (i : Nat) (n : Nd) : flW (xx7 cl i n) = 32 :: bs (keyOf cl i n):=by
 unfold xx7 keyOf
 rw [xg6,vr6,xg6,vr6,vr6,vr6,ym5,ym5]
 simp [flW,bs]
theorem qq1 {w : ByteArray} (h : qe8 w = true) : (∀ b ∈ bs w,b ≠ 32) ∧ ¬ xk1 (bs w):=by
 have h1:=yp5 h
 refine ⟨fun b hb e=>?_,fun hd=>?_⟩
 · have:=xf4 b (h1 b hb)
   rw [e] at this
   simp at this
 · obtain ⟨b,r,e,g1,g2⟩:=hd
   have:=xf4 b (h1 b (by show b ∈ bs w;rw [e];simp))
   omega
theorem yb7 {M : Nat} {cl : List Int} (hc : ∀ c ∈ cl,0 ≤ c ∧ c < 100) {i j : Nat} {n m : Nd} (hn : NdG M n) (hm : NdG M m) (h : keyOf cl i n = keyOf cl j m) : cl.getD i 0 = cl.getD j 0:=by
 have e : flW (xx7 cl i n) = flW (xx7 cl j m):=by rw [xl3,xl3,h]
 have words : ∀ (i : Nat) (n : Nd),NdG M n → ∀ w ∈ xx7 cl i n, ∀ b ∈ w,b ≠ 32:=fun i n hn w hw=>by
  unfold xx7 at hw
  simp only [za,zf,zo,List.mem_append,List.map_map,List.mem_map] at hw
  rcases hw with rfl | rfl | ⟨x,hx,rfl⟩ | rfl | ⟨x,hx,rfl⟩
  · exact (vf1 hn.ok.k.1 hn.ok.k.2).2
  · exact (vf1 hn.ok.so.1 hn.ok.so.2).2
  · exact (qq1 (hn.nm x hx)).1
  · exact (vf1 (qg1 hc i).1 (qg1 hc i).2).2
  · exact (vf1 (qg1 hc _).1 (qg1 hc _).2).2
 have e2:=xh4 _ _ (words i n hn) (words j m hm) e
 unfold xx7 at e2
 simp only [za,zf,List.cons.injEq] at e2
 have e3:=vk6 _ _ _ _ _ _ (fun l hl=>by
  obtain ⟨x,hx,rfl⟩:=List.mem_map.1 hl
  exact (qq1 (hn.nm x hx)).2) (fun l hl=>by
  obtain ⟨x,hx,rfl⟩:=List.mem_map.1 hl
  exact (qq1 (hm.nm x hx)).2) (vf1 (qg1 hc i).1 (qg1 hc i).2).1 (vf1 (qg1 hc j).1 (qg1 hc j).2).1 e2.2.2
 exact num_inj (qg1 hc i).1 (qg1 hc i).2 (qg1 hc j).1 (qg1 hc j).2 e3.2.1
theorem qt7 {K : ByteArray} : ∀ {Ks : List ByteArray} {i p : Nat},ixK K Ks i = some p → Ks[p - i]? = some K
 | x :: Ks,i,p,h=>by
  unfold ixK at h
  cases hb : K == x with
  | true =>
   rw [hb] at h
   have hx:=(Go.MapKept.bytes_beq K x).1 hb
   simp at h
   subst h
   simp [hx]
  | false =>
   rw [hb,cond_false] at h
   have h1:=yo3 h
   have:=qt7 h
   rw [show p - i = (p - (i + 1)) + 1 by omega,List.getElem?_cons_succ]
   exact this
theorem xo3 : ∀ (l : List ByteArray), ∀ K ∈ qh0 l,K ∈ l:=fun l=>by
 induction l using vc9 with
 | h0=>simp [qh0]
 | hs l x ih =>
  intro K h
  rw [qk2] at h
  unfold vz2 at h
  split at h
  · exact zq _ (ih K h)
  · rcases List.mem_append.1 h with h | h
    · exact zq _ (ih K h)
    · exact List.mem_append_right _ h
theorem vg1 {K : ByteArray} : ∀ {Ks : List ByteArray} {i : Nat},ixK K Ks i = none → K ∉ Ks
 | [],i,_=>by simp
 | x :: Ks,i,h=>by
  unfold ixK at h
  cases hb : K == x with
  | true=>rw [hb] at h;cases h
  | false =>
   rw [hb,cond_false] at h
   simp only [zo,not_or]
   refine ⟨fun e=>?_,vg1 h⟩
   rw [(Go.MapKept.bytes_beq K x).2 e] at hb;cases hb
theorem xv3 (l : List ByteArray) : (qh0 l).Nodup:=by
 induction l using vc9 with
 | h0=>simp [qh0]
 | hs l x ih =>
  rw [qk2]
  unfold vz2
  split
  · exact ih
  · rename_i h
    refine List.nodup_append.2 ⟨ih,by simp,fun a h1 b h2 hab=>?_⟩
    obtain rfl : b = x:=by simpa using h2
    exact vg1 h (hab ▸ h1)
theorem grow {g : List Nd} (hg : ∀ n ∈ g,NdG g.length n) (h60 : g.length ≤ 60) (cl : List Int) (hl : cl.length = g.length) (hc : ∀ c ∈ cl,0 ≤ c ∧ c < 100) :
 (qh0 (qg7 cl 0 g)).length ≤ (qh0 (qg7 (qv4 (qg7 cl 0 g)) 0 g)).length:=by
 obtain ⟨ks,hks⟩ : ∃ ks,qg7 cl 0 g = ks:=⟨_,rfl⟩
 rw [hks]
 have hkl : ks.length = g.length:=by rw [← hks,qh4]
 obtain ⟨cl',hcl'⟩ : ∃ c,qv4 ks = c:=⟨_,rfl⟩
 have hcl2 : cl'.length = g.length:=by rw [← hcl',vh9,hkl]
 rw [hcl']
 obtain ⟨ks',hks'⟩ : ∃ k,qg7 cl' 0 g = k:=⟨_,rfl⟩
 have hkl' : ks'.length = g.length:=by rw [← hks',qh4]
 rw [hks']
 have hc' : ∀ c ∈ cl',0 ≤ c ∧ c < 100:=fun c h=>by
  rw [← hcl'] at h
  have h1:=qw0 ks c h
  have h2:=vi5 ks
  omega
 classical
 -- of each word a node
 have pick : ∀ K ∈ qh0 ks, ∃ i,ks[i]? = some K:=fun K h=>by
  obtain ⟨i,hi,e⟩:=List.mem_iff_getElem.1 (xo3 ks K h)
  exact ⟨i,by rw [← e];exact ze hi⟩
 let f : ByteArray → Int:=fun K=>if h : K ∈ qh0 ks then plK (ks'.getD (pick K h).choose ⟨#[]⟩) (qh0 ks') else 0
 have hf : ∀ K ∈ qh0 ks, ∃ i K',ks[i]? = some K ∧ ks'[i]? = some K' ∧ f K = plK K' (qh0 ks'):=fun K h=>by
  have hi:=(pick K h).choose_spec
  have hlt:=(List.getElem?_eq_some_iff.1 hi).1
  refine ⟨(pick K h).choose,ks'[(pick K h).choose]'(by omega),hi,ze (by omega),?_⟩
  show (if h : K ∈ qh0 ks then plK (ks'.getD (pick K h).choose ⟨#[]⟩) (qh0 ks') else 0) = _
  rw [dif_pos h,zh,ze (by omega),Option.getD_some]
 have:=xd6 (qh0 ks').length ((qh0 ks).map f) ?_ ?_
 · simpa using this
 · rw [zu,List.pairwise_map]
   have hn:=xv3 ks
   rw [zu] at hn
   refine hn.imp_of_mem fun {K1 K2} h1 h2 hne he=>hne ?_
   obtain ⟨i,A,a1,a2,a3⟩:=hf K1 h1
   obtain ⟨j,B,b1,b2,b3⟩:=hf K2 h2
   obtain ⟨p,hp⟩:=qk6 (zb a2)
   obtain ⟨q,hq⟩:=qk6 (zb b2)
   have hpq : p = q:=by
    rw [a3,b3] at he
    unfold plK at he
    rw [hp,hq] at he
    simp only [Option.getD_some] at he
    omega
   subst hpq
   have hAB : A = B:=by
    have e1:=qt7 hp
    have e2:=qt7 hq
    rw [e1] at e2
    exact Option.some.inj e2
   -- so the classes are the same
   have hil:=(List.getElem?_eq_some_iff.1 a1).1
   have hjl:=(List.getElem?_eq_some_iff.1 b1).1
   have ki:=qm4 cl' g 0 i g[i] (ze (by omega))
   have kj:=qm4 cl' g 0 j g[j] (ze (by omega))
   rw [hks',Nat.zero_add,a2] at ki
   rw [hks',Nat.zero_add,b2] at kj
   have hcls:=yb7 hc' (hg _ (zx _)) (hg _ (zx _)) (show keyOf cl' i g[i] = keyOf cl' j g[j] by
    rw [← Option.some.inj ki, ← Option.some.inj kj,hAB])
   have cls : ∀ (i : Nat) (K : ByteArray),ks[i]? = some K → cl'.getD i 0 = plK K (qh0 ks):=fun i K h=>by
    rw [← hcl']
    unfold qv4
    rw [zh,List.getElem?_map,h];rfl
   rw [cls i K1 a1,cls j K2 b1] at hcls
   obtain ⟨p1,hp1⟩:=qk6 (zb a1)
   obtain ⟨q1,hq1⟩:=qk6 (zb b1)
   unfold plK at hcls
   rw [hp1,hq1] at hcls
   simp only [Option.getD_some] at hcls
   have : p1 = q1:=by omega
   subst this
   have e1:=qt7 hp1
   have e2:=qt7 hq1
   rw [e1] at e2
   exact Option.some.inj e2
 · intro v hv
   obtain ⟨K,hK,rfl⟩:=List.mem_map.1 hv
   obtain ⟨i,A,a1,a2,a3⟩:=hf K hK
   rw [a3]
   refine xb3 fun h=>?_
   obtain ⟨p,hp⟩:=qk6 (zb a2)
   rw [h] at hp
   cases hp
end Go.Proofs.YtgecnlcbdbaneaaDoor
