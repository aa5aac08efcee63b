/- What a node does, as a tree down to a depth; the classes tell it. -/
import Derived.Test.YtdcplkefmpjppaaGreatDoorHP5
set_option linter.unusedVariables false
set_option linter.unusedSimpArgs false
namespace Go.Proofs.YtdcplkefmpjppaaGreatDoor
open Go.RowKit Go.Sw

inductive Tr where
 | cut
 | nd (k so : Int) (ls : List ByteArray) (l : List Tr)
def obs (g : List Nd) : Nat → Int → Tr
 | 0,_=>.cut
 | n + 1,i=>.nd (gAt g i).k (gAt g i).so (gAt g i).ls ((gAt g i).to.map (obs g n))
theorem map_imp {α β γ δ : Type} {f : α → γ} {f' : β → γ} {h : α → δ} {h' : β → δ} : ∀ {l : List α} {l' : List β},(∀ a ∈ l, ∀ b ∈ l',f a = f' b → h a = h' b) → l.map f = l'.map f' → l.map h = l'.map h'
 | [],[],_,_=>rfl
 | [],_ :: _,_,e=>by simp at e
 | _ :: _,[],_,e=>by simp at e
 | a :: l,b :: l',hi,e=>by
  simp only [List.map_cons,List.cons.injEq] at e ⊢
  exact ⟨hi _ (by simp) _ (by simp) e.1,map_imp (fun a ha b hb=>hi a (by simp [ha]) b (by simp [hb])) e.2⟩
theorem obs_down {g h : List Nd} : ∀ {n : Nat} {i j : Int},obs g (n + 1) i = obs h (n + 1) j → obs g n i = obs h n j
 | 0,i,j,_=>rfl
 | n + 1,i,j,e=>by
  rw [obs,obs] at e ⊢
  simp only [Tr.nd.injEq] at e ⊢
  exact ⟨e.1,e.2.1,e.2.2.1,map_imp (fun a _ b _=>obs_down) e.2.2.2⟩
theorem obs_le {g h : List Nd} {i j : Int} {n : Nat} : ∀ {m : Nat},obs g (n + m) i = obs h (n + m) j → obs g n i = obs h n j
 | 0,e=>e
 | m + 1,e=>obs_le (m:=m) (obs_down e)
theorem gAt_nat {g : List Nd} {i : Nat} {n : Nd} (h : g[i]? = some n) : gAt g (i : Int) = n:=by simp [gAt,List.getD,h]

theorem dec_digits : ∀ (n : Nat),(∀ b ∈ Lib.decDigits n,48 ≤ b.toNat ∧ b.toNat ≤ 57) ∧ Lib.decDigits n ≠ []:=fun n=>by
 induction n using Nat.strongRecOn with
 | ind n ih =>
  rw [Lib.decDigits]
  split
  · refine ⟨fun b hb=>?_,by simp⟩
    rw [List.mem_singleton] at hb
    subst hb
    have : (UInt8.ofNat (48 + n)).toNat = 48 + n:=by simp;omega
    omega
  · have:=ih (n / 10) (by omega)
    refine ⟨fun b hb=>?_,by simp⟩
    rcases List.mem_append.1 hb with hb | hb
    · exact this.1 b hb
    · rw [List.mem_singleton] at hb
      subst hb
      have : (UInt8.ofNat (48 + n % 10)).toNat = 48 + n % 10:=by simp;omega
      omega
theorem dec_val : ∀ (n : Nat),(Lib.decDigits n).foldl (fun a b=>a * 10 + (b.toNat - 48)) 0 = n:=fun n=>by
 induction n using Nat.strongRecOn with
 | ind n ih =>
  rw [Lib.decDigits]
  split
  · have : (UInt8.ofNat (48 + n)).toNat = 48 + n:=by simp;omega
    simp only [List.foldl_cons,List.foldl_nil,this];omega
  · have : (UInt8.ofNat (48 + n % 10)).toNat = 48 + n % 10:=by simp;omega
    rw [List.foldl_append,ih (n / 10) (by omega)]
    simp only [List.foldl_cons,List.foldl_nil,this];omega
theorem num_dig2 (n : Int) : isDig (bs (numS n)) ∧ ∀ b ∈ bs (numS n),b ≠ 32:=by
 rw [num_bs]
 have h:=dec_digits n.toNat
 refine ⟨?_,fun b hb e=>?_⟩
 · cases hl : Lib.decDigits n.toNat with
   | nil=>exact absurd hl h.2
   | cons b r =>
    have:=h.1 b (by rw [hl];simp)
    exact ⟨b,r,rfl,this.1,this.2⟩
 · have:=h.1 b hb
   rw [e] at this
   simp at this
theorem num_inj2 {n m : Int} (h0 : 0 ≤ n) (h2 : 0 ≤ m) (h : bs (numS n) = bs (numS m)) : n = m:=by
 rw [num_bs,num_bs] at h
 have:=dec_val n.toNat
 rw [h,dec_val] at this
 omega
theorem bs_inj {x y : ByteArray} (h : bs x = bs y) : x = y:=by
 obtain ⟨x⟩:=x
 obtain ⟨y⟩:=y
 rw [show x = y from Array.toList_inj.1 h]
theorem getD_nonneg {cl : List Int} (hc : ∀ c ∈ cl,0 ≤ c) (t : Nat) : 0 ≤ cl.getD t 0:=by
 rw [List.getD_eq_getElem?_getD]
 cases h : cl[t]? with
 | none=>simp
 | some c=>exact hc c (List.mem_of_getElem? h)
theorem key_inj {M : Nat} {cl : List Int} (hc : ∀ c ∈ cl,0 ≤ c) {i j : Nat} {n m : Nd} (hn : NdG M n) (hm : NdG M m) (h : keyOf cl i n = keyOf cl j m) :
 n.k = m.k ∧ n.so = m.so ∧ n.ls = m.ls ∧ cl.getD i 0 = cl.getD j 0 ∧ (n.to.map fun k=>cl.getD k.toNat 0) = m.to.map fun k=>cl.getD k.toNat 0:=by
 have e : flW (keyW cl i n) = flW (keyW cl j m):=by rw [key_bs,key_bs,h]
 have words : ∀ (i : Nat) (n : Nd),NdG M n → ∀ w ∈ keyW cl i n, ∀ b ∈ w,b ≠ 32:=fun i n hn w hw=>by
  unfold keyW at hw
  simp only [List.cons_append,List.nil_append,List.mem_cons,List.mem_append,List.map_map,List.mem_map] at hw
  rcases hw with rfl | rfl | ⟨x,hx,rfl⟩ | rfl | ⟨x,hx,rfl⟩
  · exact (num_dig2 _).2
  · exact (num_dig2 _).2
  · exact (name_word (hn.nm x hx)).1
  · exact (num_dig2 _).2
  · exact (num_dig2 _).2
 have e2:=flW_inj _ _ (words i n hn) (words j m hm) e
 unfold keyW at e2
 simp only [List.cons_append,List.nil_append,List.cons.injEq] at e2
 have e3:=split_inj _ _ _ _ _ _ (fun l hl=>by
  obtain ⟨x,hx,rfl⟩:=List.mem_map.1 hl
  exact (name_word (hn.nm x hx)).2) (fun l hl=>by
  obtain ⟨x,hx,rfl⟩:=List.mem_map.1 hl
  exact (name_word (hm.nm x hx)).2) (num_dig2 _).1 (num_dig2 _).1 e2.2.2
 refine ⟨num_inj2 hn.ok.k.1 hm.ok.k.1 e2.1,num_inj2 hn.ok.so.1 hm.ok.so.1 e2.2.1,?_,num_inj2 (getD_nonneg hc i) (getD_nonneg hc j) e3.2.1,?_⟩
 · have:=map_imp (h:=id) (h':=id) (fun a _ b _ h=>bs_inj h) e3.1
   simpa using this
 · have:=e3.2.2
   rw [List.map_map,List.map_map] at this
   exact map_imp (fun a _ b _ h=>num_inj2 (getD_nonneg hc _) (getD_nonneg hc _) h) this
theorem allK_snoc_in {l : List ByteArray} {K : ByteArray} (h : K ∈ l) : allK (l ++ [K]) = allK l:=by
 rw [allK_snoc]
 obtain ⟨p,hp⟩:=allK_mem h
 unfold addK
 rw [hp]
theorem allK_snoc_out {l : List ByteArray} {K : ByteArray} (h : K ∉ l) : (allK (l ++ [K])).length = (allK l).length + 1:=by
 rw [allK_snoc]
 unfold addK
 cases hi : ixK K (allK l) 0 with
 | none=>simp
 | some p =>
  have:=ixK_get hi
  exact absurd (allK_sub l K (List.mem_of_getElem? this)) h
theorem cnt_refine (l : List (ByteArray × ByteArray)) : (∀ p ∈ l, ∀ q ∈ l,p.2 = q.2 → p.1 = q.1) →
 (allK (l.map (·.1))).length ≤ (allK (l.map (·.2))).length ∧ ((allK (l.map (·.1))).length = (allK (l.map (·.2))).length → ∀ p ∈ l, ∀ q ∈ l,p.1 = q.1 → p.2 = q.2):=by
 induction l using snoc_ind with
 | h0=>intro _;exact ⟨Nat.le_refl _,fun _ p hp=>by cases hp⟩
 | hs l x ih =>
  intro h
  have ih:=ih fun p hp q hq=>h p (by simp [hp]) q (by simp [hq])
  simp only [List.map_append,List.map_cons,List.map_nil]
  by_cases h2 : x.2 ∈ l.map (·.2)
  · have h1 : x.1 ∈ l.map (·.1):=by
     obtain ⟨y,hy,e⟩:=List.mem_map.1 h2
     exact List.mem_map.2 ⟨y,hy,h y (by simp [hy]) x (by simp) e⟩
    rw [allK_snoc_in h1,allK_snoc_in h2]
    refine ⟨ih.1,fun he=>?_⟩
    have ih2:=ih.2 he
    obtain ⟨y,hy,e⟩:=List.mem_map.1 h2
    have e1:=h y (by simp [hy]) x (by simp) e
    intro p hp q hq hpq
    rcases List.mem_append.1 hp with a | a <;> rcases List.mem_append.1 hq with b | b
    · exact ih2 p a q b hpq
    · rw [List.mem_singleton.1 b] at hpq ⊢
      rw [← e];exact ih2 p a y hy (hpq.trans e1.symm)
    · rw [List.mem_singleton.1 a] at hpq ⊢
      rw [← e];exact ih2 y hy q b (e1.trans hpq)
    · rw [List.mem_singleton.1 a,List.mem_singleton.1 b]
  · rw [allK_snoc_out h2]
    by_cases h1 : x.1 ∈ l.map (·.1)
    · rw [allK_snoc_in h1]
      exact ⟨by omega,fun he=>by omega⟩
    · rw [allK_snoc_out h1]
      refine ⟨by omega,fun he=>?_⟩
      have ih2:=ih.2 (by omega)
      intro p hp q hq hpq
      rcases List.mem_append.1 hp with a | a <;> rcases List.mem_append.1 hq with b | b
      · exact ih2 p a q b hpq
      · rw [List.mem_singleton.1 b] at hpq
        exact absurd (List.mem_map.2 ⟨p,a,hpq⟩) h1
      · rw [List.mem_singleton.1 a] at hpq
        exact absurd (List.mem_map.2 ⟨q,b,hpq.symm⟩) h1
      · rw [List.mem_singleton.1 a,List.mem_singleton.1 b]
theorem cnt_lists {ks ks' : List ByteArray} (hl : ks.length = ks'.length) (h : ∀ i j : Nat,i < ks.length → j < ks.length → ks'[i]? = ks'[j]? → ks[i]? = ks[j]?) :
 (allK ks).length ≤ (allK ks').length ∧ ((allK ks).length = (allK ks').length → ∀ i j : Nat,i < ks.length → j < ks.length → ks[i]? = ks[j]? → ks'[i]? = ks'[j]?):=by
 have m1 : (ks.zip ks').map (·.1) = ks:=List.map_fst_zip (by omega)
 have m2 : (ks.zip ks').map (·.2) = ks':=List.map_snd_zip (by omega)
 have hz : ∀ p ∈ ks.zip ks', ∃ i,i < ks.length ∧ ks[i]? = some p.1 ∧ ks'[i]? = some p.2:=fun p hp=>by
  obtain ⟨i,hi,e⟩:=List.mem_iff_getElem.1 hp
  simp only [List.length_zip] at hi
  rw [List.getElem_zip] at e
  subst e
  exact ⟨i,by omega,List.getElem?_eq_getElem (by omega),List.getElem?_eq_getElem (by omega)⟩
 have key:=cnt_refine (ks.zip ks') fun p hp q hq e=>by
  obtain ⟨i,i0,i1,i2⟩:=hz p hp
  obtain ⟨j,j0,j1,j2⟩:=hz q hq
  have:=h i j i0 j0 (by rw [i2,j2,e])
  rw [i1,j1] at this
  exact Option.some.inj this
 rw [m1,m2] at key
 refine ⟨key.1,fun he i j hi hj e=>?_⟩
 have:=key.2 he (ks[i],ks'[i]'(by omega)) (by
  rw [List.mem_iff_getElem]
  exact ⟨i,by simp;omega,by simp⟩) (ks[j],ks'[j]'(by omega)) (by
  rw [List.mem_iff_getElem]
  exact ⟨j,by simp;omega,by simp⟩) (by
  rw [List.getElem?_eq_getElem hi,List.getElem?_eq_getElem hj] at e
  exact Option.some.inj e)
 rw [List.getElem?_eq_getElem (by omega),List.getElem?_eq_getElem (by omega)]
 exact congrArg some this
structure PI (g : List Nd) (cl : List Int) (r : Nat) : Prop where
 len : cl.length = g.length
 rng : ∀ c ∈ cl,0 ≤ c
 eq : ∀ i j : Nat,i < g.length → j < g.length → (cl.getD i 0 = cl.getD j 0 ↔ obs g r i = obs g r j)
theorem keys_eq {g : List Nd} (hg : ∀ n ∈ g,NdG g.length n) {cl : List Int} {r : Nat} (h : PI g cl r) {i j : Nat} (hi : i < g.length) (hj : j < g.length) : (keysF cl 0 g)[i]? = (keysF cl 0 g)[j]? ↔ obs g (r + 1) i = obs g (r + 1) j:=by
 rw [keysF_get cl g 0 i g[i] (List.getElem?_eq_getElem hi),keysF_get cl g 0 j g[j] (List.getElem?_eq_getElem hj),Nat.zero_add,Nat.zero_add]
 have gi:=hg _ (List.getElem_mem hi)
 have gj:=hg _ (List.getElem_mem hj)
 have ai : gAt g (i : Int) = g[i]:=gAt_nat (List.getElem?_eq_getElem hi)
 have aj : gAt g (j : Int) = g[j]:=gAt_nat (List.getElem?_eq_getElem hj)
 have kid : ∀ a,a ∈ g[i].to → ∀ b,b ∈ g[j].to → (cl.getD a.toNat 0 = cl.getD b.toNat 0 ↔ obs g r a = obs g r b):=fun a ha b hb=>by
  have ra:=gi.ok.r a ha
  have rb:=gj.ok.r b hb
  have:=h.eq a.toNat b.toNat (by omega) (by omega)
  rwa [show ((a.toNat : Nat) : Int) = a by omega,show ((b.toNat : Nat) : Int) = b by omega] at this
 constructor
 · intro e
   obtain ⟨e1,e2,e3,e4,e5⟩:=key_inj h.rng gi gj (Option.some.inj e)
   rw [obs,obs,ai,aj,e1,e2,e3]
   congr 1
   exact map_imp (fun a ha b hb=>(kid a ha b hb).1) e5
 · intro e
   have ed:=obs_down e
   rw [obs,obs,ai,aj] at e
   simp only [Tr.nd.injEq] at e
   have ec:=(h.eq i j hi hj).2 ed
   have et : (g[i].to.map fun k=>cl.getD k.toNat 0) = g[j].to.map fun k=>cl.getD k.toNat 0:=map_imp (fun a ha b hb=>(kid a ha b hb).2) e.2.2.2
   unfold keyOf
   rw [e.1,e.2.1,e.2.2.1,ec]
   have em : (g[i].to.map fun k=>numS (cl.getD k.toNat 0)) = g[j].to.map fun k=>numS (cl.getD k.toNat 0):=map_imp (fun a _ b _ h=>congrArg numS h) et
   rw [em]
theorem plK_inj {ks : List ByteArray} {K K' : ByteArray} (h : K ∈ ks) (h' : K' ∈ ks) (e : plK K (allK ks) = plK K' (allK ks)) : K = K':=by
 obtain ⟨p,hp⟩:=allK_mem h
 obtain ⟨q,hq⟩:=allK_mem h'
 unfold plK at e
 rw [hp,hq] at e
 simp only [Option.getD_some] at e
 have : p = q:=by omega
 subst this
 have e1:=ixK_get hp
 have e2:=ixK_get hq
 rw [e1] at e2
 exact Option.some.inj e2
theorem PI.next {g : List Nd} (hg : ∀ n ∈ g,NdG g.length n) {cl : List Int} {r : Nat} (h : PI g cl r) : PI g (nxtK (keysF cl 0 g)) (r + 1):=by
 refine ⟨by rw [nxtK_len,keysF_len],fun c hc=>(nxtK_range _ c hc).1,fun i j hi hj=>?_⟩
 rw [← keys_eq hg h hi hj]
 have li : i < (keysF cl 0 g).length:=by rw [keysF_len];exact hi
 have lj : j < (keysF cl 0 g).length:=by rw [keysF_len];exact hj
 have cls : ∀ i (hi : i < (keysF cl 0 g).length),(nxtK (keysF cl 0 g)).getD i 0 = plK ((keysF cl 0 g)[i]) (allK (keysF cl 0 g)):=fun i hi=>by
  unfold nxtK
  rw [List.getD_eq_getElem?_getD,List.getElem?_map,List.getElem?_eq_getElem hi];rfl
 rw [cls i li,cls j lj,List.getElem?_eq_getElem li,List.getElem?_eq_getElem lj]
 constructor
 · intro e
   rw [plK_inj (List.getElem_mem li) (List.getElem_mem lj) e]
 · intro e
   rw [Option.some.inj e]
theorem obs_stable {g : List Nd} (hg : ∀ n ∈ g,NdG g.length n) {r : Nat} (h : ∀ i j : Nat,i < g.length → j < g.length → obs g r i = obs g r j → obs g (r + 1) i = obs g (r + 1) j) : ∀ (m : Nat) (i j : Nat),i < g.length → j < g.length → obs g r i = obs g r j → obs g (r + m) i = obs g (r + m) j
 | 0,i,j,_,_,e=>e
 | m + 1,i,j,hi,hj,e=>by
  have e1:=h i j hi hj e
  have gi:=hg _ (List.getElem_mem hi)
  have gj:=hg _ (List.getElem_mem hj)
  have ai : gAt g (i : Int) = g[i]:=gAt_nat (List.getElem?_eq_getElem hi)
  have aj : gAt g (j : Int) = g[j]:=gAt_nat (List.getElem?_eq_getElem hj)
  show obs g (r + m + 1) i = obs g (r + m + 1) j
  rw [obs,obs,ai,aj] at e1 ⊢
  simp only [Tr.nd.injEq] at e1 ⊢
  refine ⟨e1.1,e1.2.1,e1.2.2.1,map_imp (fun a ha b hb e2=>?_) e1.2.2.2⟩
  have ra:=gi.ok.r a ha
  have rb:=gj.ok.r b hb
  have:=obs_stable hg h m a.toNat b.toNat (by omega) (by omega)
  rw [show ((a.toNat : Nat) : Int) = a by omega,show ((b.toNat : Nat) : Int) = b by omega] at this
  exact this e2
theorem partF_spec {g : List Nd} (hg : ∀ n ∈ g,NdG g.length n) (h0 : 0 < g.length) : ∀ (f : Nat) (cl : List Int) (many r : Nat),PI g cl r → g.length + 1 ≤ f + many →
 (many = 0 ∨ ∃ ks : List ByteArray,ks.length = g.length ∧ many = (allK ks).length ∧ ∀ i j : Nat,i < g.length → j < g.length → (ks[i]? = ks[j]? ↔ obs g r i = obs g r j)) →
 ∀ i j : Nat,i < g.length → j < g.length → ((partF g f cl many).getD i 0 = (partF g f cl many).getD j 0 ↔ ∀ n,obs g n i = obs g n j)
 | 0,cl,many,r,hp,hf,hm,i,j,hi,hj=>by
  exfalso
  rcases hm with hm | ⟨ks,k1,k2, -⟩
  · omega
  · have:=allK_len ks;omega
 | f + 1, cl,many,r,hp,hf,hm,i,j,hi,hj=>by
  have hn:=hp.next hg
  have kl : (keysF cl 0 g).length = g.length:=keysF_len cl g 0
  have pos : 0 < (allK (keysF cl 0 g)).length:=by
   obtain ⟨p,hp⟩:=allK_mem (List.getElem_mem (show 0 < (keysF cl 0 g).length by omega))
   have:=ix_lt hp
   omega
  unfold partF
  split
  · rename_i he
    rcases hm with hm | ⟨ks,k1,k2,k3⟩
    · omega
    rw [hn.eq i j hi hj]
    have hc:=cnt_lists (ks:=ks) (ks':=keysF cl 0 g) (by rw [k1,kl]) fun a b ha hb e=>(k3 a b (by omega) (by omega)).2 (obs_down ((keys_eq hg hp (by omega) (by omega)).1 e))
    have hs:=hc.2 (by omega)
    have st : ∀ i j : Nat,i < g.length → j < g.length → obs g r i = obs g r j → obs g (r + 1) i = obs g (r + 1) j:=fun a b ha hb e=>(keys_eq hg hp ha hb).1 (hs a b (by omega) (by omega) ((k3 a b ha hb).2 e))
    constructor
    · intro e n
      by_cases hle : n ≤ r
      · exact obs_le (m:=r + 1 - n) (by rw [show n + (r + 1 - n) = r + 1 by omega];exact e)
      · have:=obs_stable hg st (n - r) i j hi hj (obs_down e)
        rwa [show r + (n - r) = n by omega] at this
    · intro e;exact e _
  · rename_i hne
    refine partF_spec hg h0 f _ _ (r + 1) hn ?_ (.inr ⟨keysF cl 0 g,kl,rfl,fun a b ha hb=>keys_eq hg hp ha hb⟩) i j hi hj
    rcases hm with hm | ⟨ks,k1,k2,k3⟩
    · omega
    have hc:=cnt_lists (ks:=ks) (ks':=keysF cl 0 g) (by rw [k1,kl]) fun a b ha hb e=>(k3 a b (by omega) (by omega)).2 (obs_down ((keys_eq hg hp (by omega) (by omega)).1 e))
    omega
theorem parted_spec {g : List Nd} (hg : ∀ n ∈ g,NdG g.length n) (h0 : 0 < g.length) {i j : Nat} (hi : i < g.length) (hj : j < g.length) : (partedP g).getD i 0 = (partedP g).getD j 0 ↔ ∀ n,obs g n i = obs g n j:=by
 refine partF_spec hg h0 (g.length + 1) _ 0 0 ⟨by simp,fun c hc=>?_,fun i j hi hj=>?_⟩ (by omega) (.inl rfl) i j hi hj
 · rw [List.mem_replicate] at hc;omega
 · simp only [obs,iff_true]
   rw [List.getD_eq_getElem?_getD,List.getD_eq_getElem?_getD,List.getElem?_replicate,List.getElem?_replicate,if_pos hi,if_pos hj]
end Go.Proofs.YtdcplkefmpjppaaGreatDoor
