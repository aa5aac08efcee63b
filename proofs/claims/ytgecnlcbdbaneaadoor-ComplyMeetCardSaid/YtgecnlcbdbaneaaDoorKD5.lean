/- What is left bounds both graphs, and nothing bounds them better: plain. -/
import Derived.Test.YtgecnlcbdbaneaaDoorKD3
set_option linter.unusedVariables false
set_option linter.unusedSimpArgs false
namespace Go.Proofs.YtgecnlcbdbaneaaDoor
open Go.RowKit Go.Sw
open _root_.List renaming getD → za, getElem_zip → zb, length_map → zh, getElem?_eq_getElem → zi

structure Full (a b : List Nd) (s : Bd) : Prop where
 wf : WF a.length b.length s
 cm : ∀ j,j < s.ks.length → ∃ q,Cmp a b s j q
def sG (a b : List Nd) (sd : Bool) : List Nd:=bif sd then a else b
def sI (q : Ky) (sd : Bool) : Int:=bif sd then q.i else q.k
section
variable {a b : List Nd} {s : Bd} {q : Ky} {j : Nat}
theorem Full.ok (H : Full a b s) (h : Cmp a b s j q) : okK a.length b.length q:=H.wf.ok q (List.mem_of_getElem? h.k)
theorem Cmp.lt (h : Cmp a b s j q) : j < s.ks.length:=(List.getElem?_eq_some_iff.1 h.k).1
theorem Full.at (H : Full a b s) {c : Ky} {t : Int} (h : IdK s.ks c t) : Cmp a b s t.toNat c:=by
 obtain ⟨d,hd⟩:=H.cm t.toNat (List.getElem?_eq_some_iff.1 h.2).1
 have : some d = some c:=hd.k.symm.trans h.2
 cases this
 exact hd
theorem xc9 (H : Full a b s) (h : Cmp a b s j q) (hl : (qa7 s).getD j false = false) : ve5 a b q = false ∧ flK a b q = false ∧
 ∃ to,s.ns.getD j n0 = ⟨(nA a b q).k,(nA a b q).so,lbK a b q,to⟩ ∧ vr7 (IdK s.ks) (chK a b q) to ∧ (smK a b q = false → ∀ t ∈ to,fAt (qa7 s) t = false) ∧ (to ≠ [] → ∃ t ∈ to,fAt (qa7 s) t = false):=by
 obtain ⟨h1,h2⟩:=vk5 H.wf.l3
 have hfl : s.fl.getD j false = (ve5 a b q || flK a b q):=by simp [za,h.fl]
 have h3 : (ve5 a b q || flK a b q) = false:=by
  cases e : (ve5 a b q || flK a b q) with
  | false=>rfl
  | true =>
   have:=h1.up j (by rw [hfl,e])
   rw [hl] at this
   cases this
 have hb : ve5 a b q = false:=by
  cases e : ve5 a b q with
  | false=>rfl
  | true=>rw [e] at h3;simp at h3
 have hf : flK a b q = false:=by
  rw [hb] at h3;simpa using h3
 obtain ⟨to,t1,t2⟩:=h.ng hb
 have hns : s.ns.getD j n0 = ⟨(nA a b q).k,(nA a b q).so,lbK a b q,to⟩:=by simp [za,t1]
 have hsm : s.sm.getD j false = smK a b q:=by simp [za,h.sm,hb]
 have hc:=h2 j h.lt
 unfold yj7 at hc
 rw [hl,hsm,show qj2 s j = to by unfold qj2;rw [hns]] at hc
 simp only [Bool.not_false,Bool.true_and,Bool.and_eq_false_iff,decide_eq_false_iff_not,Bool.or_eq_false_iff,Bool.not_eq_false'] at hc
 refine ⟨hb,hf,to,hns,t2,fun hs t ht=>?_,fun hne=>?_⟩
 · rcases hc with hc | hc
   · have : (to.filter (fAt (qa7 s))).length = 0:=by unfold vg3 at hc;omega
     cases e : fAt (qa7 s) t with
     | false=>rfl
     | true =>
      have hm : t ∈ to.filter (fAt (qa7 s)):=List.mem_filter.2 ⟨ht,e⟩
      rw [List.length_eq_zero_iff] at this
      rw [this] at hm;cases hm
   · rw [hs] at hc;simp at hc
 · by_cases hall : ∀ t ∈ to,fAt (qa7 s) t = true
   · exfalso
     have e : vg3 (qa7 s) to = to.length:=by
      unfold vg3
      exact List.length_filter_eq_length_iff.2 hall
     have hp : 0 < to.length:=List.length_pos_iff.2 hne
     rcases hc with hc | hc
     · omega
     · exact hc.2 e
   · have : ∃ t ∈ to, ¬ fAt (qa7 s) t = true:=by
      refine Classical.byContradiction fun hn=>hall fun t ht=>?_
      refine Classical.byContradiction fun h2=>hn ⟨t,ht,h2⟩
     obtain ⟨t,ht,h⟩:=this
     exact ⟨t,ht,by simpa using h⟩
theorem ch_len (hc : chB (nA a b q) = true) : chK a b q = (lbK a b q).map fun l=>nxK a b q (ixY a q.i l) (ixY b q.k l) q.u:=by
 have:=qo5.1 hc
 unfold chK
 rw [if_neg (by omega),if_neg (by omega),if_neg (by omega),if_pos hc]
theorem yc0 (hc : chB (nA a b q) = true) {to : List Int} (ht : vr7 (IdK s.ks) (chK a b q) to) : (lbK a b q).length = to.length ∧
 (∀ l t,(l,t) ∈ (lbK a b q).zip to → IdK s.ks (nxK a b q (ixY a q.i l) (ixY b q.k l) q.u) t) ∧ ∀ l ∈ lbK a b q, ∃ t,(l,t) ∈ (lbK a b q).zip to:=by
 rw [ch_len hc] at ht
 have hlen:=ht.len
 rw [zh] at hlen
 refine ⟨hlen.symm,fun l t hm=>?_,fun l hl=>?_⟩
 · obtain ⟨p,hp,e⟩:=List.mem_iff_getElem.1 hm
   rw [zb] at e
   cases e
   have hp1 : p < (lbK a b q).length:=by simp at hp;omega
   have hp2 : p < to.length:=by omega
   obtain ⟨u,h1,h2⟩:=ht.get p _ (by rw [List.getElem?_map,zi hp1];rfl)
   rw [zi hp2] at h1
   cases h1
   exact h2
 · obtain ⟨p,hp,rfl⟩:=List.mem_iff_getElem.1 hl
   have hp2 : p < to.length:=by omega
   refine ⟨to[p],List.mem_iff_getElem.2 ⟨p,by simp;omega,by rw [zb]⟩⟩
theorem xh8 (hc : chB (nA a b q) = false) : lbK a b q = []:=by
 unfold lbK
 rw [if_neg (by rw [hc];decide)]
theorem yc4 (Ha : Gd a) (Hb : Gd b) (h : okK a.length b.length q) : (lbK a b q).Pairwise ltB ∧ ∀ l ∈ lbK a b q,qe8 l = true:=by
 cases hc : chB (nA a b q) with
 | false=>rw [xh8 hc];exact ⟨.nil,(fun l h=>by cases h)⟩
 | true =>
  refine ⟨?_,fun l hl=>?_⟩
  · unfold lbK
    rw [if_pos hc]
    have hx:=vm5 ((ye7 Ha Hb h).lab (qo5.1 hc)).2
    split
    · split
      · exact ys5 hx
      · exact yo2 _ _
    · exact hx
  · rcases xi9 h hc hl with ⟨h1,h2⟩ | ⟨h1,h2⟩
    · exact Ha.lab (h.ir h1) l h2
    · exact Hb.lab (h.kr h1) l h2
structure Left (a b : List Nd) (s : Bd) (j : Nat) (q : Ky) (z : Nd) : Prop where
 k : z.k = (nA a b q).k
 so : z.so = (nA a b q).so
 sh : shN z
 one : (nA a b q).k = 2 ∨ (nA a b q).k = 3 → ∃ t,z.to = [t] ∧ IdK s.ks (nxK a b q 0 0 q.u) t ∧ fAt (qa7 s) t = false
 four : (nA a b q).k = 4 → ∃ t t',z.to = [t,t'] ∧ IdK s.ks (nxK a b q 0 0 (1 - q.u)) t ∧ IdK s.ks (nxK a b q 1 1 q.u) t' ∧ fAt (qa7 s) t = false ∧ fAt (qa7 s) t' = false
 five : (nA a b q).k = 5 → ∃ t t',z.to = [t,t'] ∧ IdK s.ks (nxK a b q 0 0 q.u) t ∧ IdK s.ks (nxK a b q 1 1 q.u) t' ∧ fAt (qa7 s) t = false ∧ fAt (qa7 s) t' = false
 lab : chB (nA a b q) = true → ∀ l ∈ z.ls,l ∈ lbK a b q ∧ IdK s.ks (nxK a b q (ixY a q.i l) (ixY b q.k l) q.u) (atL z l) ∧ fAt (qa7 s) (atL z l) = false
 has : chB (nA a b q) = true → ∀ l ∈ lbK a b q, ∃ t,IdK s.ks (nxK a b q (ixY a q.i l) (ixY b q.k l) q.u) t ∧ (fAt (qa7 s) t = false → l ∈ z.ls)
 all : chB (nA a b q) = true → smK a b q = false → ∀ l ∈ lbK a b q,l ∈ z.ls
 to : ∀ t ∈ z.to,fAt (qa7 s) t = false ∧ 0 ≤ t ∧ t.toNat < s.ks.length
 nm : ∀ l ∈ z.ls,qe8 l = true
theorem id_lt {ks : List Ky} {c : Ky} {t : Int} (h : IdK ks c t) : 0 ≤ t ∧ t.toNat < ks.length:=⟨h.1,(List.getElem?_eq_some_iff.1 h.2).1⟩
theorem xi8 {ks : List Ky} : ∀ {cs : List Ky} {to : List Int},vr7 (IdK ks) cs to → ∀ t ∈ to,0 ≤ t ∧ t.toNat < ks.length
 | _,_,.nil,t,h=>by cases h
 | _,_,.cons r l,t,h=>by
  rcases List.mem_cons.1 h with rfl | h
  · exact id_lt r
  · exact xi8 l t h
theorem yp1 {F : List Bool} {to : List Int} (h : ∀ t ∈ to,fAt F t = false) : to.filter (fun t => !fAt F t) = to:=List.filter_eq_self.2 fun t ht=>by rw [h t ht];rfl
theorem xl2 {R : Ky → Int → Prop} {c : Ky} {to : List Int} (h : vr7 R [c] to) : ∃ t,to = [t] ∧ R c t:=by
 cases h with
 | cons r l=>cases l with
  | nil=>exact ⟨_,rfl,r⟩
theorem vh2 {R : Ky → Int → Prop} {c d : Ky} {to : List Int} (h : vr7 R [c,d] to) : ∃ t t',to = [t,t'] ∧ R c t ∧ R d t':=by
 cases h with
 | cons r l=>cases l with
  | cons r' l=>cases l with
   | nil=>exact ⟨_,_,rfl,r,r'⟩
theorem qt8 (Ha : Gd a) (Hb : Gd b) (H : Full a b s) (h : Cmp a b s j q) (hl : (qa7 s).getD j false = false) : Left a b s j q (gAt (SG s (qa7 s)) j):=by
 obtain ⟨hb,hf,to,hns,ht,hall,hex⟩:=xc9 H h hl
 have hq:=H.ok h
 have hsh:=ye7 Ha Hb hq
 have hz : gAt (SG s (qa7 s)) (j : Int) = ⟨(nA a b q).k,(nA a b q).so,(((lbK a b q).zip to).filter fun p => !fAt (qa7 s) p.2).map (·.1),to.filter fun t => !fAt (qa7 s) t⟩:=by
  rw [SG_at h.lt]
  unfold sgN
  rw [if_neg (by rw [hl];decide),hns]
 rw [hz]
 have hlt:=xi8 ht
 have hto : ∀ t ∈ to.filter (fun t => !fAt (qa7 s) t),fAt (qa7 s) t = false ∧ 0 ≤ t ∧ t.toNat < s.ks.length:=fun t h=>by
  have:=List.mem_filter.1 h
  exact ⟨by simpa using this.2,hlt t this.1⟩
 cases hc : chB (nA a b q) with
 | false =>
  have hlb:=xh8 hc
  have hsm : smK a b q = false:=by unfold smK;rw [hc];rfl
  have hta:=yp1 (hall hsm)
  rw [hta] at hto
  have hn : ¬ ((nA a b q).k = 6 ∨ (nA a b q).k = 7):=fun e=>by rw [qo5.2 e] at hc;cases hc
  have el : (((lbK a b q).zip to).filter fun p => !fAt (qa7 s) p.2).map (·.1) = []:=by rw [hlb];rfl
  rw [el,hta]
  have k1 : (nA a b q).k = 2 ∨ (nA a b q).k = 3 → ∃ t,to = [t] ∧ IdK s.ks (nxK a b q 0 0 q.u) t:=fun hk=>by
   refine xl2 ?_
   unfold chK at ht
   rwa [if_pos hk] at ht
  have k4 : (nA a b q).k = 4 → ∃ t t',to = [t,t'] ∧ IdK s.ks (nxK a b q 0 0 (1 - q.u)) t ∧ IdK s.ks (nxK a b q 1 1 q.u) t':=fun hk=>by
   refine vh2 ?_
   unfold chK at ht
   rwa [if_neg (by omega),if_pos hk] at ht
  have k5 : (nA a b q).k = 5 → ∃ t t',to = [t,t'] ∧ IdK s.ks (nxK a b q 0 0 q.u) t ∧ IdK s.ks (nxK a b q 1 1 q.u) t':=fun hk=>by
   refine vh2 ?_
   unfold chK at ht
   rwa [if_neg (by omega),if_neg (by omega),if_pos hk] at ht
  have k0 : (nA a b q).k = 1 → to = []:=fun hk=>by
   unfold chK at ht
   rw [if_neg (by omega),if_neg (by omega),if_neg (by omega),if_neg (by rw [hc];decide)] at ht
   cases ht
   rfl
  refine ⟨rfl,rfl,?_,fun hk=>?_,fun hk=>?_,fun hk=>?_,(fun e=>by rw [hc] at e;cases e),(fun e=>by rw [hc] at e;cases e),(fun e=>by rw [hc] at e;cases e),hto,(fun l h=>by cases h)⟩
  · show shp _ _ _ _
    rcases hsh with ⟨e1,e2,e3,e4⟩ | ⟨e1,e2,e3,e4⟩ | ⟨e1,e2,e3,e4⟩ | ⟨e1, -, -, -⟩
    · exact .inl ⟨e1,e2,rfl,by simp only;rw [k0 e1];rfl⟩
    · obtain ⟨t,e, -⟩:=k1 e1
      exact .inr (.inl ⟨e1,e2,rfl,by simp only;rw [e];rfl⟩)
    · have : ∃ t t',to = [t,t']:=by
       rcases e1 with e | e
       · obtain ⟨t,t',e, -⟩:=k4 e
         exact ⟨t,t',e⟩
       · obtain ⟨t,t',e, -⟩:=k5 e
         exact ⟨t,t',e⟩
      obtain ⟨t,t',e⟩:=this
      exact .inr (.inr (.inl ⟨e1,e2,rfl,by simp only;rw [e];rfl⟩))
    · exact absurd e1 hn
  · obtain ⟨t,rfl,h1⟩:=k1 hk
    exact ⟨t,rfl,h1,(hto t (by simp)).1⟩
  · obtain ⟨t,t',rfl,h1,h2⟩:=k4 hk
    exact ⟨t,t',rfl,h1,h2,(hto t (by simp)).1,(hto t' (by simp)).1⟩
  · obtain ⟨t,t',rfl,h1,h2⟩:=k5 hk
    exact ⟨t,t',rfl,h1,h2,(hto t (by simp)).1,(hto t' (by simp)).1⟩
 | true =>
  have hk:=qo5.1 hc
  obtain ⟨l1,l2,l3⟩:=yc0 hc ht
  obtain ⟨s1,s2⟩:=yc4 Ha Hb hq
  have hzf:=vr9 (fun t => !fAt (qa7 s) t) (lbK a b q) to l1
  rw [hzf] at hto ⊢
  generalize hP : ((lbK a b q).zip to).filter (fun p => !fAt (qa7 s) p.2) = P at *
  have hPm : ∀ p,p ∈ P ↔ p ∈ (lbK a b q).zip to ∧ fAt (qa7 s) p.2 = false:=fun p=>by
   rw [← hP,List.mem_filter];simp
  have hsub : (P.map (·.1)).Sublist (lbK a b q):=by
   have h1 : P.Sublist ((lbK a b q).zip to):=by rw [← hP];exact List.filter_sublist
   have h2:=h1.map (·.1)
   rwa [List.map_fst_zip (by omega)] at h2
  have hsrt:=s1.sublist hsub
  have hnd:=vr3 hsrt
  have hlb : ¬ (lbK a b q).length = 0 ∧ (lbK a b q).length ≤ 6:=by
   unfold flK at hf
   rw [hc] at hf
   simp only [Bool.true_and,Bool.or_eq_false_iff,decide_eq_false_iff_not] at hf
   exact ⟨hf.1,by omega⟩
  have hne : to ≠ []:=fun e=>by rw [e] at l1;simp at l1;rw [l1] at hlb;simp at hlb
  have hlen1 : 1 ≤ (P.map (·.1)).length:=by
   obtain ⟨t,t1,t2⟩:=hex hne
   obtain ⟨p,hp,e⟩:=List.mem_iff_getElem.1 t1
   have hm : ((lbK a b q)[p]'(by omega),t) ∈ P:=(hPm _).2 ⟨List.mem_iff_getElem.2 ⟨p,by simp;omega,by rw [zb,e]⟩,t2⟩
   rw [zh]
   exact List.length_pos_of_mem hm
  have hlen6 : (P.map (·.1)).length ≤ 6:=Nat.le_trans hsub.length_le hlb.2
  have hnm : ∀ l ∈ P.map (·.1),qe8 l = true:=fun l hl=>s2 l (hsub.subset hl)
  have hat : ∀ l t,(l,t) ∈ P → atL ⟨(nA a b q).k,(nA a b q).so,P.map (·.1),P.map (·.2)⟩ l = t:=fun l t h=>zip_at hnd h
  refine ⟨rfl,rfl,?_,fun e=>by omega,fun e=>by omega,fun e=>by omega,fun _ l hl=>?_,fun _ l hl=>?_,fun _ hs l hl=>?_,hto,hnm⟩
  · show shp _ _ _ _
    refine .inr (.inr (.inr ⟨hk,?_,yi9 hlen1 hlen6 hnm hsrt,by simp⟩))
    rcases hsh with ⟨e1, -, -, -⟩ | ⟨e1, -, -, -⟩ | ⟨e1, -, -, -⟩ | ⟨-,e2, -, -⟩
    · omega
    · omega
    · omega
    · exact e2
  · obtain ⟨p,hp,rfl⟩:=List.mem_map.1 hl
    obtain ⟨l,t⟩:=p
    have hp2:=(hPm _).1 hp
    refine ⟨hsub.subset hl,?_,?_⟩
    · rw [hat l t hp];exact l2 l t hp2.1
    · rw [hat l t hp];exact hp2.2
  · obtain ⟨t,h1⟩:=l3 l hl
    exact ⟨t,l2 l t h1,fun e=>List.mem_map.2 ⟨(l,t),(hPm _).2 ⟨h1,e⟩,rfl⟩⟩
  · obtain ⟨t,h1⟩:=l3 l hl
    have htm : t ∈ to:=(List.of_mem_zip h1).2
    exact List.mem_map.2 ⟨(l,t),(hPm _).2 ⟨h1,hall hs t htm⟩,rfl⟩
end
end Go.Proofs.YtgecnlcbdbaneaaDoor
