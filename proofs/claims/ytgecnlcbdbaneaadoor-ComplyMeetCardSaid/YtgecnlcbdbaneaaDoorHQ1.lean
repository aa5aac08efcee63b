/- What a node does, as a tree down to a depth; the classes tell it. -/
import Derived.Test.YtgecnlcbdbaneaaDoorHP5
set_option linter.unusedVariables false
set_option linter.unusedSimpArgs false
namespace Go.Proofs.YtgecnlcbdbaneaaDoor
open Go.RowKit Go.Sw
open _root_.List renaming getElem?_eq_getElem → za, getElem_mem → zb, getD_eq_getElem?_getD → ze, map_map → zf, map_cons → zh, mem_singleton → zm, foldl_cons → zn, foldl_nil → zo, mem_of_getElem? → zq, cons_append → zu, nil_append → zw, mem_iff_getElem → zx, getElem?_replicate → za1

inductive Tr where
 | cut
 | nd (k so : Int) (ls : List ByteArray) (l : List Tr)
def obs (g : List Nd) : Nat → Int → Tr
 | 0,_=>.cut
 | n + 1,i=>.nd (gAt g i).k (gAt g i).so (gAt g i).ls ((gAt g i).to.map (obs g n))
theorem qt2 {α β γ δ : Type} {f : α → γ} {f' : β → γ} {h : α → δ} {h' : β → δ} : ∀ {l : List α} {l' : List β},(∀ a ∈ l, ∀ b ∈ l',f a = f' b → h a = h' b) → l.map f = l'.map f' → l.map h = l'.map h'
 | [],[],_,_=>rfl
 | [],_ :: _,_,e=>by simp at e
 | _ :: _,[],_,e=>by simp at e
 | a :: l,b :: l',hi,e=>by
  simp only [zh,List.cons.injEq] at e ⊢
  exact ⟨hi _ (by simp) _ (by simp) e.1,qt2 (fun a ha b hb=>hi a (by simp [ha]) b (by simp [hb])) e.2⟩
theorem qv8 {g h : List Nd} : ∀ {n : Nat} {i j : Int},obs g (n + 1) i = obs h (n + 1) j → obs g n i = obs h n j
 | 0,i,j,_=>rfl
 | n + 1,i,j,e=>by
  rw [obs,obs] at e ⊢
  simp only [Tr.nd.injEq] at e ⊢
  exact ⟨e.1,e.2.1,e.2.2.1,qt2 (fun a _ b _=>qv8) e.2.2.2⟩
theorem yx3 {g h : List Nd} {i j : Int} {n : Nat} : ∀ {m : Nat},obs g (n + m) i = obs h (n + m) j → obs g n i = obs h n j
 | 0,e=>e
 | m + 1,e=>yx3 (m:=m) (qv8 e)
theorem qx3 {g : List Nd} {i : Nat} {n : Nd} (h : g[i]? = some n) : gAt g (i : Int) = n:=by simp [gAt,List.getD,h]

theorem xw7 : ∀ (n : Nat),(∀ b ∈ Lib.decDigits n,48 ≤ b.toNat ∧ b.toNat ≤ 57) ∧ Lib.decDigits n ≠ []:=fun n=>by
 induction n using Nat.strongRecOn with
 | ind n ih =>
  rw [Lib.decDigits]
  split
  · refine ⟨fun b hb=>?_,by simp⟩
    rw [zm] at hb
    subst hb
    have : (UInt8.ofNat (48 + n)).toNat = 48 + n:=by simp;omega
    omega
  · have:=ih (n / 10) (by omega)
    refine ⟨fun b hb=>?_,by simp⟩
    rcases List.mem_append.1 hb with hb | hb
    · exact this.1 b hb
    · rw [zm] at hb
      subst hb
      have : (UInt8.ofNat (48 + n % 10)).toNat = 48 + n % 10:=by simp;omega
      omega
theorem yl4 : ∀ (n : Nat),(Lib.decDigits n).foldl (fun a b=>a * 10 + (b.toNat - 48)) 0 = n:=fun n=>by
 induction n using Nat.strongRecOn with
 | ind n ih =>
  rw [Lib.decDigits]
  split
  · have : (UInt8.ofNat (48 + n)).toNat = 48 + n:=by simp;omega
    simp only [zn,zo,this];omega
  · have : (UInt8.ofNat (48 + n % 10)).toNat = 48 + n % 10:=by simp;omega
    rw [List.foldl_append,ih (n / 10) (by omega)]
    simp only [zn,zo,this];omega
theorem qv6 (n : Int) : xk1 (bs (qn3 n)) ∧ ∀ b ∈ bs (qn3 n),b ≠ 32:=by
 rw [vr8]
 have h:=xw7 n.toNat
 refine ⟨?_,fun b hb e=>?_⟩
 · cases hl : Lib.decDigits n.toNat with
   | nil=>exact absurd hl h.2
   | cons b r =>
    have:=h.1 b (by rw [hl];simp)
    exact ⟨b,r,rfl,this.1,this.2⟩
 · have:=h.1 b hb
   rw [e] at this
   simp at this
theorem vi2 {n m : Int} (h0 : 0 ≤ n) (h2 : 0 ≤ m) (h : bs (qn3 n) = bs (qn3 m)) : n = m:=by
 rw [vr8,vr8] at h
 have:=yl4 n.toNat
 rw [h,yl4] at this
 omega
theorem yw0 {x y : ByteArray} (h : bs x = bs y) : x = y:=by
 obtain ⟨x⟩:=x
 obtain ⟨y⟩:=y
 rw [show x = y from Array.toList_inj.1 h]
theorem qs0 {cl : List Int} (hc : ∀ c ∈ cl,0 ≤ c) (t : Nat) : 0 ≤ cl.getD t 0:=by
 rw [ze]
 cases h : cl[t]? with
 | none=>simp
 | some c=>exact hc c (zq h)
theorem key_inj {M : Nat} {cl : List Int} (hc : ∀ c ∈ cl,0 ≤ c) {i j : Nat} {n m : Nd} (hn : NdG M n) (hm : NdG M m) (h : keyOf cl i n = keyOf cl j m) :
 n.k = m.k ∧ n.so = m.so ∧ n.ls = m.ls ∧ cl.getD i 0 = cl.getD j 0 ∧ (n.to.map fun k=>cl.getD k.toNat 0) = m.to.map fun k=>cl.getD k.toNat 0:=by
 have e : flW (xx7 cl i n) = flW (xx7 cl j m):=by rw [xl3,xl3,h]
 have words : ∀ (i : Nat) (n : Nd),NdG M n → ∀ w ∈ xx7 cl i n, ∀ b ∈ w,b ≠ 32:=fun i n hn w hw=>by
  unfold xx7 at hw
  simp only [zu,zw,List.mem_cons,List.mem_append,zf,List.mem_map] at hw
  rcases hw with rfl | rfl | ⟨x,hx,rfl⟩ | rfl | ⟨x,hx,rfl⟩
  · exact (qv6 _).2
  · exact (qv6 _).2
  · exact (qq1 (hn.nm x hx)).1
  · exact (qv6 _).2
  · exact (qv6 _).2
 have e2:=xh4 _ _ (words i n hn) (words j m hm) e
 unfold xx7 at e2
 simp only [zu,zw,List.cons.injEq] at e2
 have e3:=vk6 _ _ _ _ _ _ (fun l hl=>by
  obtain ⟨x,hx,rfl⟩:=List.mem_map.1 hl
  exact (qq1 (hn.nm x hx)).2) (fun l hl=>by
  obtain ⟨x,hx,rfl⟩:=List.mem_map.1 hl
  exact (qq1 (hm.nm x hx)).2) (qv6 _).1 (qv6 _).1 e2.2.2
 refine ⟨vi2 hn.ok.k.1 hm.ok.k.1 e2.1,vi2 hn.ok.so.1 hm.ok.so.1 e2.2.1,?_,vi2 (qs0 hc i) (qs0 hc j) e3.2.1,?_⟩
 · have:=qt2 (h:=id) (h':=id) (fun a _ b _ h=>yw0 h) e3.1
   simpa using this
 · have:=e3.2.2
   rw [zf,zf] at this
   exact qt2 (fun a _ b _ h=>vi2 (qs0 hc _) (qs0 hc _) h) this
theorem qs7 {l : List ByteArray} {K : ByteArray} (h : K ∈ l) : qh0 (l ++ [K]) = qh0 l:=by
 rw [qk2]
 obtain ⟨p,hp⟩:=qk6 h
 unfold vz2
 rw [hp]
theorem vc6 {l : List ByteArray} {K : ByteArray} (h : K ∉ l) : (qh0 (l ++ [K])).length = (qh0 l).length + 1:=by
 rw [qk2]
 unfold vz2
 cases hi : ixK K (qh0 l) 0 with
 | none=>simp
 | some p =>
  have:=qt7 hi
  exact absurd (xo3 l K (zq this)) h
theorem xt6 (l : List (ByteArray × ByteArray)) : (∀ p ∈ l, ∀ q ∈ l,p.2 = q.2 → p.1 = q.1) →
 (qh0 (l.map (·.1))).length ≤ (qh0 (l.map (·.2))).length ∧ ((qh0 (l.map (·.1))).length = (qh0 (l.map (·.2))).length → ∀ p ∈ l, ∀ q ∈ l,p.1 = q.1 → p.2 = q.2):=by
 induction l using vc9 with
 | h0=>intro _;exact ⟨Nat.le_refl _,fun _ p hp=>by cases hp⟩
 | hs l x ih =>
  intro h
  have ih:=ih fun p hp q hq=>h p (by simp [hp]) q (by simp [hq])
  simp only [List.map_append,zh,List.map_nil]
  by_cases h2 : x.2 ∈ l.map (·.2)
  · have h1 : x.1 ∈ l.map (·.1):=by
     obtain ⟨y,hy,e⟩:=List.mem_map.1 h2
     exact List.mem_map.2 ⟨y,hy,h y (by simp [hy]) x (by simp) e⟩
    rw [qs7 h1,qs7 h2]
    refine ⟨ih.1,fun he=>?_⟩
    have ih2:=ih.2 he
    obtain ⟨y,hy,e⟩:=List.mem_map.1 h2
    have e1:=h y (by simp [hy]) x (by simp) e
    intro p hp q hq hpq
    rcases List.mem_append.1 hp with a | a <;> rcases List.mem_append.1 hq with b | b
    · exact ih2 p a q b hpq
    · rw [List.mem_singleton.1 b] at hpq ⊢
      rw [← e];exact ih2 p a y hy (hpq.trans e1.symm)
    · rw [List.mem_singleton.1 a] at hpq ⊢
      rw [← e];exact ih2 y hy q b (e1.trans hpq)
    · rw [List.mem_singleton.1 a,List.mem_singleton.1 b]
  · rw [vc6 h2]
    by_cases h1 : x.1 ∈ l.map (·.1)
    · rw [qs7 h1]
      exact ⟨by omega,fun he=>by omega⟩
    · rw [vc6 h1]
      refine ⟨by omega,fun he=>?_⟩
      have ih2:=ih.2 (by omega)
      intro p hp q hq hpq
      rcases List.mem_append.1 hp with a | a <;> rcases List.mem_append.1 hq with b | b
      · exact ih2 p a q b hpq
      · rw [List.mem_singleton.1 b] at hpq
        exact absurd (List.mem_map.2 ⟨p,a,hpq⟩) h1
      · rw [List.mem_singleton.1 a] at hpq
        exact absurd (List.mem_map.2 ⟨q,b,hpq.symm⟩) h1
      · rw [List.mem_singleton.1 a,List.mem_singleton.1 b]
theorem vn0 {ks ks' : List ByteArray} (hl : ks.length = ks'.length) (h : ∀ i j : Nat,i < ks.length → j < ks.length → ks'[i]? = ks'[j]? → ks[i]? = ks[j]?) :
 (qh0 ks).length ≤ (qh0 ks').length ∧ ((qh0 ks).length = (qh0 ks').length → ∀ i j : Nat,i < ks.length → j < ks.length → ks[i]? = ks[j]? → ks'[i]? = ks'[j]?):=by
 have m1 : (ks.zip ks').map (·.1) = ks:=List.map_fst_zip (by omega)
 have m2 : (ks.zip ks').map (·.2) = ks':=List.map_snd_zip (by omega)
 have hz : ∀ p ∈ ks.zip ks', ∃ i,i < ks.length ∧ ks[i]? = some p.1 ∧ ks'[i]? = some p.2:=fun p hp=>by
  obtain ⟨i,hi,e⟩:=List.mem_iff_getElem.1 hp
  simp only [List.length_zip] at hi
  rw [List.getElem_zip] at e
  subst e
  exact ⟨i,by omega,za (by omega),za (by omega)⟩
 have key:=xt6 (ks.zip ks') fun p hp q hq e=>by
  obtain ⟨i,i0,i1,i2⟩:=hz p hp
  obtain ⟨j,j0,j1,j2⟩:=hz q hq
  have:=h i j i0 j0 (by rw [i2,j2,e])
  rw [i1,j1] at this
  exact Option.some.inj this
 rw [m1,m2] at key
 refine ⟨key.1,fun he i j hi hj e=>?_⟩
 have:=key.2 he (ks[i],ks'[i]'(by omega)) (by
  rw [zx]
  exact ⟨i,by simp;omega,by simp⟩) (ks[j],ks'[j]'(by omega)) (by
  rw [zx]
  exact ⟨j,by simp;omega,by simp⟩) (by
  rw [za hi,za hj] at e
  exact Option.some.inj e)
 rw [za (by omega),za (by omega)]
 exact congrArg some this
structure PI (g : List Nd) (cl : List Int) (r : Nat) : Prop where
 len : cl.length = g.length
 rng : ∀ c ∈ cl,0 ≤ c
 eq : ∀ i j : Nat,i < g.length → j < g.length → (cl.getD i 0 = cl.getD j 0 ↔ obs g r i = obs g r j)
theorem keys_eq {g : List Nd} (hg : ∀ n ∈ g,NdG g.length n) {cl : List Int} {r : Nat} (h : PI g cl r) {i j : Nat} (hi : i < g.length) (hj : j < g.length) : (qg7 cl 0 g)[i]? = (qg7 cl 0 g)[j]? ↔ obs g (r + 1) i = obs g (r + 1) j:=by
 rw [qm4 cl g 0 i g[i] (za hi),qm4 cl g 0 j g[j] (za hj),Nat.zero_add,Nat.zero_add]
 have gi:=hg _ (zb hi)
 have gj:=hg _ (zb hj)
 have ai : gAt g (i : Int) = g[i]:=qx3 (za hi)
 have aj : gAt g (j : Int) = g[j]:=qx3 (za hj)
 have kid : ∀ a,a ∈ g[i].to → ∀ b,b ∈ g[j].to → (cl.getD a.toNat 0 = cl.getD b.toNat 0 ↔ obs g r a = obs g r b):=fun a ha b hb=>by
  have ra:=gi.ok.r a ha
  have rb:=gj.ok.r b hb
  have:=h.eq a.toNat b.toNat (by omega) (by omega)
  rwa [show ((a.toNat : Nat) : Int) = a by omega,show ((b.toNat : Nat) : Int) = b by omega] at this
 constructor
 · intro e
   obtain ⟨e1,e2,e3,e4,e5⟩:=key_inj h.rng gi gj (Option.some.inj e)
   rw [obs,obs,ai,aj,e1,e2,e3]
   congr 1
   exact qt2 (fun a ha b hb=>(kid a ha b hb).1) e5
 · intro e
   have ed:=qv8 e
   rw [obs,obs,ai,aj] at e
   simp only [Tr.nd.injEq] at e
   have ec:=(h.eq i j hi hj).2 ed
   have et : (g[i].to.map fun k=>cl.getD k.toNat 0) = g[j].to.map fun k=>cl.getD k.toNat 0:=qt2 (fun a ha b hb=>(kid a ha b hb).2) e.2.2.2
   unfold keyOf
   rw [e.1,e.2.1,e.2.2.1,ec]
   have em : (g[i].to.map fun k=>qn3 (cl.getD k.toNat 0)) = g[j].to.map fun k=>qn3 (cl.getD k.toNat 0):=qt2 (fun a _ b _ h=>congrArg qn3 h) et
   rw [em]
theorem yd7 {ks : List ByteArray} {K K' : ByteArray} (h : K ∈ ks) (h' : K' ∈ ks) (e : plK K (qh0 ks) = plK K' (qh0 ks)) : K = K':=by
 obtain ⟨p,hp⟩:=qk6 h
 obtain ⟨q,hq⟩:=qk6 h'
 unfold plK at e
 rw [hp,hq] at e
 simp only [Option.getD_some] at e
 have : p = q:=by omega
 subst this
 have e1:=qt7 hp
 have e2:=qt7 hq
 rw [e1] at e2
 exact Option.some.inj e2
theorem PI.next {g : List Nd} (hg : ∀ n ∈ g,NdG g.length n) {cl : List Int} {r : Nat} (h : PI g cl r) : PI g (qv4 (qg7 cl 0 g)) (r + 1):=by
 refine ⟨by rw [vh9,qh4],fun c hc=>(qw0 _ c hc).1,fun i j hi hj=>?_⟩
 rw [← keys_eq hg h hi hj]
 have li : i < (qg7 cl 0 g).length:=by rw [qh4];exact hi
 have lj : j < (qg7 cl 0 g).length:=by rw [qh4];exact hj
 have cls : ∀ i (hi : i < (qg7 cl 0 g).length),(qv4 (qg7 cl 0 g)).getD i 0 = plK ((qg7 cl 0 g)[i]) (qh0 (qg7 cl 0 g)):=fun i hi=>by
  unfold qv4
  rw [ze,List.getElem?_map,za hi];rfl
 rw [cls i li,cls j lj,za li,za lj]
 constructor
 · intro e
   rw [yd7 (zb li) (zb lj) e]
 · intro e
   rw [Option.some.inj e]
theorem vr5 {g : List Nd} (hg : ∀ n ∈ g,NdG g.length n) {r : Nat} (h : ∀ i j : Nat,i < g.length → j < g.length → obs g r i = obs g r j → obs g (r + 1) i = obs g (r + 1) j) : ∀ (m : Nat) (i j : Nat),i < g.length → j < g.length → obs g r i = obs g r j → obs g (r + m) i = obs g (r + m) j
 | 0,i,j,_,_,e=>e
 | m + 1,i,j,hi,hj,e=>by
  have e1:=h i j hi hj e
  have gi:=hg _ (zb hi)
  have gj:=hg _ (zb hj)
  have ai : gAt g (i : Int) = g[i]:=qx3 (za hi)
  have aj : gAt g (j : Int) = g[j]:=qx3 (za hj)
  show obs g (r + m + 1) i = obs g (r + m + 1) j
  rw [obs,obs,ai,aj] at e1 ⊢
  simp only [Tr.nd.injEq] at e1 ⊢
  refine ⟨e1.1,e1.2.1,e1.2.2.1,qt2 (fun a ha b hb e2=>?_) e1.2.2.2⟩
  have ra:=gi.ok.r a ha
  have rb:=gj.ok.r b hb
  have:=vr5 hg h m a.toNat b.toNat (by omega) (by omega)
  rw [show ((a.toNat : Nat) : Int) = a by omega,show ((b.toNat : Nat) : Int) = b by omega] at this
  exact this e2
theorem vq4 {g : List Nd} (hg : ∀ n ∈ g,NdG g.length n) (h0 : 0 < g.length) : ∀ (f : Nat) (cl : List Int) (many r : Nat),PI g cl r → g.length + 1 ≤ f + many →
 (many = 0 ∨ ∃ ks : List ByteArray,ks.length = g.length ∧ many = (qh0 ks).length ∧ ∀ i j : Nat,i < g.length → j < g.length → (ks[i]? = ks[j]? ↔ obs g r i = obs g r j)) →
 ∀ i j : Nat,i < g.length → j < g.length → ((vy4 g f cl many).getD i 0 = (vy4 g f cl many).getD j 0 ↔ ∀ n,obs g n i = obs g n j)
 | 0,cl,many,r,hp,hf,hm,i,j,hi,hj=>by
  exfalso
  rcases hm with hm | ⟨ks,k1,k2, -⟩
  · omega
  · have:=vi5 ks;omega
 | f + 1, cl,many,r,hp,hf,hm,i,j,hi,hj=>by
  have hn:=hp.next hg
  have kl : (qg7 cl 0 g).length = g.length:=qh4 cl g 0
  have pos : 0 < (qh0 (qg7 cl 0 g)).length:=by
   obtain ⟨p,hp⟩:=qk6 (zb (show 0 < (qg7 cl 0 g).length by omega))
   have:=yo3 hp
   omega
  unfold vy4
  split
  · rename_i he
    rcases hm with hm | ⟨ks,k1,k2,k3⟩
    · omega
    rw [hn.eq i j hi hj]
    have hc:=vn0 (ks:=ks) (ks':=qg7 cl 0 g) (by rw [k1,kl]) fun a b ha hb e=>(k3 a b (by omega) (by omega)).2 (qv8 ((keys_eq hg hp (by omega) (by omega)).1 e))
    have hs:=hc.2 (by omega)
    have st : ∀ i j : Nat,i < g.length → j < g.length → obs g r i = obs g r j → obs g (r + 1) i = obs g (r + 1) j:=fun a b ha hb e=>(keys_eq hg hp ha hb).1 (hs a b (by omega) (by omega) ((k3 a b ha hb).2 e))
    constructor
    · intro e n
      by_cases hle : n ≤ r
      · exact yx3 (m:=r + 1 - n) (by rw [show n + (r + 1 - n) = r + 1 by omega];exact e)
      · have:=vr5 hg st (n - r) i j hi hj (qv8 e)
        rwa [show r + (n - r) = n by omega] at this
    · intro e;exact e _
  · rename_i hne
    refine vq4 hg h0 f _ _ (r + 1) hn ?_ (.inr ⟨qg7 cl 0 g,kl,rfl,fun a b ha hb=>keys_eq hg hp ha hb⟩) i j hi hj
    rcases hm with hm | ⟨ks,k1,k2,k3⟩
    · omega
    have hc:=vn0 (ks:=ks) (ks':=qg7 cl 0 g) (by rw [k1,kl]) fun a b ha hb e=>(k3 a b (by omega) (by omega)).2 (qv8 ((keys_eq hg hp (by omega) (by omega)).1 e))
    omega
theorem xj4 {g : List Nd} (hg : ∀ n ∈ g,NdG g.length n) (h0 : 0 < g.length) {i j : Nat} (hi : i < g.length) (hj : j < g.length) : (ql4 g).getD i 0 = (ql4 g).getD j 0 ↔ ∀ n,obs g n i = obs g n j:=by
 refine vq4 hg h0 (g.length + 1) _ 0 0 ⟨by simp,fun c hc=>?_,fun i j hi hj=>?_⟩ (by omega) (.inl rfl) i j hi hj
 · rw [List.mem_replicate] at hc;omega
 · simp only [obs,iff_true]
   rw [ze,ze,za1,za1,if_pos hi,if_pos hj]
end Go.Proofs.YtgecnlcbdbaneaaDoor
/- The least graph does the same, and there is one only. -/
namespace Go.Proofs.YtgecnlcbdbaneaaDoor
open Go.RowKit Go.Sw
open _root_.List renaming mem_of_getElem? → za, getElem?_eq_getElem → zb, getElem?_map → ze, getElem?_cons_succ → zf

structure GC (g : List Nd) (cl : List Int) : Prop where
 ok : ∀ n ∈ g,NdG g.length n
 eq : ∀ i j : Nat,i < g.length → j < g.length → (cl.getD i 0 = cl.getD j 0 ↔ ∀ n,obs g n i = obs g n j)
theorem GC.cls {g : List Nd} {cl : List Int} (h : GC g cl) {a b : Int} (ha : 0 ≤ a ∧ a < (g.length : Int)) (hb : 0 ≤ b ∧ b < (g.length : Int)) : cOf cl a = cOf cl b ↔ ∀ n,obs g n a = obs g n b:=by
 have:=h.eq a.toNat b.toNat (by omega) (by omega)
 rwa [show ((a.toNat : Nat) : Int) = a by omega,show ((b.toNat : Nat) : Int) = b by omega] at this
def Par (g h : List Nd) (o o' : List Int) : Prop:=o.length = o'.length ∧ ∀ (i : Nat) (a b : Int),o[i]? = some a → o'[i]? = some b → ∀ n,obs g n a = obs h n b
def inR (g : List Nd) (o : List Int) : Prop := ∀ v ∈ o,0 ≤ v ∧ v < (g.length : Int)
theorem Par.cons {g h : List Nd} {o o' : List Int} {a b : Int} (hp : Par g h (a :: o) (b :: o')) : (∀ n,obs g n a = obs h n b) ∧ Par g h o o' :=
 ⟨hp.2 0 a b rfl rfl,by have:=hp.1;simpa using this,fun i x y hx hy=>hp.2 (i + 1) x y (by simpa using hx) (by simpa using hy)⟩
theorem inR.add {g : List Nd} {o : List Int} (ho : inR g o) {a : Int} (ha : 0 ≤ a ∧ a < (g.length : Int)) (cl : List Int) : inR g (vd6 cl o a):=by
 unfold vd6
 split
 · exact ho
 · intro v hv
   rcases List.mem_append.1 hv with hv | hv
   · exact ho v hv
   · rw [List.mem_singleton] at hv;subst hv;exact ha
theorem ya3 {g : List Nd} (hg : ∀ n ∈ g,NdG g.length n) (h0 : 0 < g.length) : GC g (ql4 g):=⟨hg,fun _ _ hi hj=>xj4 hg h0 hi hj⟩
theorem xh6 {g : List Nd} (h0 : 0 < g.length) (cl : List Int) : vo5 cl g.length [0]:=⟨by simp;omega,by simp⟩
def Made (g : List Nd) (cl : List Int) (o : List Int) (out : List Nd) : Prop :=
 ∀ (p : Nat) (x : Nd) (v : Int),out[p]? = some x → o[p]? = some v → x.k = (gAt g v).k ∧ x.so = (gAt g v).so ∧ x.ls = (gAt g v).ls ∧ x.to.length = (gAt g v).to.length ∧
   ∀ (q : Nat) (t u : Int),x.to[q]? = some t → (gAt g v).to[q]? = some u → 0 ≤ t ∧ ∃ w,o[t.toNat]? = some w ∧ cOf cl w = cOf cl u
theorem yz6 {cl : List Int} {c : Int} {Cs : List Int} (h : c ∈ Cs) : 0 ≤ plI c Cs ∧ Cs[(plI c Cs).toNat]? = some c:=by
 unfold plI
 cases hi : ixI c Cs 0 with
 | none=>exact absurd h (vi1 hi)
 | some p =>
  refine ⟨by simp,?_⟩
  have : ∀ {Cs : List Int} {i p : Nat},ixI c Cs i = some p → Cs[p - i]? = some c:=fun {Cs}=>by
   induction Cs with
   | nil=>intro i p h;cases h
   | cons x l ih =>
    intro i p h
    unfold ixI at h
    cases hb : c == x with
    | true =>
     rw [hb] at h
     simp at h
     subst h
     have : c = x:=by simpa using hb
     simp [this]
    | false =>
     rw [hb,cond_false] at h
     have h1:=yc3 h
     have:=ih h
     rw [show p - i = (p - (i + 1)) + 1 by omega,zf]
     exact this
  have:=this hi
  simpa using this
theorem xf2 (cl : List Int) : ∀ (t o : List Int) (q : Nat) (a u : Int),(qv0 cl t o).1[q]? = some a → t[q]? = some u → 0 ≤ a ∧ ∃ w,(qv0 cl t o).2[a.toNat]? = some w ∧ cOf cl w = cOf cl u
 | x :: t,o,0,a,u,h,hu=>by
  simp only [qv0,List.getElem?_cons_zero,Option.some.injEq] at h hu
  subst hu
  have hg:=yz6 (cl:=cl) (xl6 cl o x)
  rw [h] at hg
  rw [ze] at hg
  cases hw : (vd6 cl o x)[a.toNat]? with
  | none=>rw [hw] at hg;simp at hg
  | some w =>
   rw [hw] at hg
   simp only [Option.map_some,Option.some.injEq] at hg
   refine ⟨hg.1,w,?_,hg.2⟩
   simp only [qv0]
   rw [(qr7 cl t (vd6 cl o x)).2 _ (List.getElem?_eq_some_iff.1 hw).1]
   exact hw
 | x :: t,o,q + 1,a,u,h,hu=>by
  simp only [qv0,zf] at h hu ⊢
  exact xf2 cl t _ q a u h hu
theorem qz9 {g : List Nd} {cl : List Int} (hg : ∀ n ∈ g,NdG g.length n) : ∀ (f at' : Nat) (o : List Int) (out : List Nd),vo5 cl g.length o → at' ≤ o.length → out.length = at' → g.length + 1 ≤ at' + f → Made g cl o out →
 ∃ o' : List Int,vo5 cl g.length o' ∧ o'.length = (vs8 g cl f at' o out).length ∧ (∀ j,j < o.length → o'[j]? = o[j]?) ∧ Made g cl o' (vs8 g cl f at' o out)
 | 0,at',o,out,ho,ha,hl,hf,hm=>by
  have:=ho.len
  omega
 | f + 1, at',o,out,ho,ha,hl,hf,hm=>by
  unfold vs8
  cases hx : o[at']? with
  | none =>
   have : o.length ≤ at':=by simpa using hx
   exact ⟨o,ho,by simp only;omega,fun _ _=>rfl,hm⟩
  | some v =>
   have hlt:=(List.getElem?_eq_some_iff.1 hx).1
   have rv:=ho.r v (za hx)
   obtain ⟨m,hmm⟩ : ∃ m,g[v.toNat]? = some m:=⟨_,zb (by omega)⟩
   have am : gAt g v = m:=by unfold gAt;simp [List.getD,hmm]
   have gm:=hg m (za hmm)
   have sub:=qr7 cl m.to o
   simp only [hmm]
   obtain ⟨o',a1,a2,a3,a4⟩:=qz9 hg f (at' + 1) (qv0 cl m.to o).2 (out ++ [⟨m.k,m.so,m.ls,(qv0 cl m.to o).1⟩]) (ho.row gm.ok.r) (by omega) (by simp [hl]) (by omega) (by
    intro p x w hp hw
    by_cases hpl : p < out.length
    · rw [List.getElem?_append_left hpl] at hp
      rw [sub.2 p (by omega)] at hw
      obtain ⟨b1,b2,b3,b4,b5⟩:=hm p x w hp hw
      refine ⟨b1,b2,b3,b4,fun q t u ht hu=>?_⟩
      obtain ⟨c1,z,c2,c3⟩:=b5 q t u ht hu
      exact ⟨c1,z,by rw [sub.2 _ (List.getElem?_eq_some_iff.1 c2).1];exact c2,c3⟩
    · rw [List.getElem?_append_right (by omega)] at hp
      by_cases hpe : p = out.length
      · rw [show p - out.length = 0 by omega] at hp
        simp at hp
        subst hp
        rw [sub.2 p (by omega),hpe,hl,hx] at hw
        obtain rfl:=Option.some.inj hw
        rw [am]
        refine ⟨rfl,rfl,rfl,qv9 cl m.to o,fun q t u ht hu=>?_⟩
        exact xf2 cl m.to o q t u ht hu
      · rw [List.getElem?_eq_none (by simp;omega)] at hp;cases hp)
   exact ⟨o',a1,a2,fun j hj=>by rw [a3 j (by omega),sub.2 j hj],a4⟩
theorem xs8 {g : List Nd} {cl : List Int} (hc : GC g cl) {o : List Int} {L : List Nd} (ho : vo5 cl g.length o) (hl : o.length = L.length) (hm : Made g cl o L) : ∀ (n : Nat) (p : Nat) (v : Int),o[p]? = some v → obs L n p = obs g n v
 | 0,p,v,_=>rfl
 | n + 1, p,v,hv=>by
  have hlt:=(List.getElem?_eq_some_iff.1 hv).1
  obtain ⟨x,hx⟩ : ∃ x,L[p]? = some x:=⟨_,zb (by omega)⟩
  obtain ⟨e1,e2,e3,e4,e5⟩:=hm p x v hx hv
  rw [obs,obs,qx3 hx,e1,e2,e3]
  congr 1
  apply List.ext_getElem?
  intro q
  rw [ze,ze]
  cases ht : x.to[q]? with
  | none =>
   have : (gAt g v).to[q]? = none:=by simp at ht ⊢;omega
   rw [this];rfl
  | some t =>
   have hq:=(List.getElem?_eq_some_iff.1 ht).1
   obtain ⟨u,hu⟩ : ∃ u,(gAt g v).to[q]? = some u:=⟨_,zb (by omega)⟩
   obtain ⟨t0,w,hw,hcl⟩:=e5 q t u ht hu
   rw [hu]
   simp only [Option.map_some,Option.some.injEq]
   have ih:=xs8 hc ho hl hm n t.toNat w hw
   rw [show ((t.toNat : Nat) : Int) = t by omega] at ih
   rw [ih]
   have rw1:=ho.r w (za hw)
   have rv:=ho.r v (za hv)
   have ru : 0 ≤ u ∧ u < (g.length : Int):=by
    have hgm : gAt g v ∈ g:=by
     unfold gAt
     rw [List.getD_eq_getElem?_getD,zb (by omega),Option.getD_some]
     exact List.getElem_mem _
    exact (hc.ok _ hgm).ok.r u (za hu)
   exact (hc.cls rw1 ru).1 hcl n
theorem vb6 {g : List Nd} (hg : ∀ n ∈ g,NdG g.length n) (h0 : 0 < g.length) (n : Nat) : obs (qk0 g) n 0 = obs g n 0:=by
 obtain ⟨o,a1,a2,a3,a4⟩:=qz9 (cl:=ql4 g) hg (g.length + 1) 0 [0] [] (xh6 h0 _) (by simp) rfl (by omega) (by intro p x v hp;simp at hp)
 have:=xs8 (ya3 hg h0) a1 a2 a4 n 0 0 (by rw [a3 0 (by simp)];rfl)
 exact this
end Go.Proofs.YtgecnlcbdbaneaaDoor
