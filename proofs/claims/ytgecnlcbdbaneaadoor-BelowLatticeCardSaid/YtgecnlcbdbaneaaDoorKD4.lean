/- What is struck: plain. -/
import Derived.Test.YtgecnlcbdbaneaaDoorKD2
set_option linter.unusedVariables false
set_option linter.unusedSimpArgs false
namespace Go.Proofs.YtgecnlcbdbaneaaDoor
open Go.RowKit Go.Sw

def fAt (F : List Bool) (t : Int) : Bool:=F.getD t.toNat false
def badN (F : List Bool) (to : List Int) : Nat:=(to.filter (fAt F)).length
def toAt (s : Bd) (j : Nat) : List Int:=(s.ns.getD j n0).to
def strC (s : Bd) (F : List Bool) (j : Nat) : Bool := !(F.getD j false) && (decide (0 < badN F (toAt s j)) && (!(s.sm.getD j false) || decide (badN F (toAt s j) = (toAt s j).length)))
def strN (s : Bd) (F : List Bool) (j : Nat) : List Bool:=if strC s F j = true then F.set j true else F
def strR (s : Bd) (F : List Bool) : List Bool:=(List.range s.ks.length).foldl (strN s) F
def strF (s : Bd) : Nat → List Bool → List Bool
 | 0,F=>F
 | f + 1,F=>if strR s F = F then F else strF s f (strR s F)
def strikeP (s : Bd) : List Bool:=strF s (s.ks.length + 1) s.fl
def cntB : List Bool → Nat
 | []=>0
 | x :: l=>(if x = true then 1 else 0) + cntB l
theorem cnt_le : ∀ l : List Bool,cntB l ≤ l.length
 | []=>Nat.le_refl _
 | x :: l=>by
  have:=cnt_le l
  simp only [cntB,List.length_cons]
  split <;> omega
theorem cnt_set : ∀ {l : List Bool} {j : Nat},j < l.length → l.getD j false = false → cntB (l.set j true) = cntB l + 1
 | [],_,h,_=>by simp at h
 | x :: l,0,_,h=>by
  simp at h
  subst h
  simp [cntB]
  omega
 | x :: l,j + 1,h,h'=>by
  have:=cnt_set (l:=l) (j:=j) (by simpa using h) (by simpa using h')
  simp only [List.set_cons_succ,cntB,this]
  omega
def Rule (s : Bd) (B : Nat → Prop) (j : Nat) : Prop:=(s.sm.getD j false = false ∧ ∃ t ∈ toAt s j,B t.toNat) ∨ (s.sm.getD j false = true ∧ toAt s j ≠ [] ∧ ∀ t ∈ toAt s j,B t.toNat)
structure StrOK (s : Bd) (F F' : List Bool) : Prop where
 ln : F'.length = F.length
 up : ∀ j,F.getD j false = true → F'.getD j false = true
 mn : ∀ B : Nat → Prop,(∀ j,F.getD j false = true → B j) → (∀ j,j < s.ks.length → Rule s B j → B j) → ∀ j,F'.getD j false = true → B j
theorem StrOK.refl (s : Bd) (F : List Bool) : StrOK s F F:=⟨rfl,fun _ h=>h,fun _ h _=>h⟩
theorem StrOK.trans {s : Bd} {F G H : List Bool} (h : StrOK s F G) (k : StrOK s G H) : StrOK s F H:=⟨k.ln.trans h.ln,fun j hj=>k.up j (h.up j hj),fun B h1 h2=>k.mn B (h.mn B h1 h2) h2⟩
theorem getB_set {l : List Bool} {i j : Nat} {v : Bool} (hi : i < l.length) : (l.set i v).getD j false = if j = i then v else l.getD j false:=by
 by_cases h : j = i
 · subst h;simp [List.getD,hi]
 · rw [if_neg h];simp [List.getD,List.getElem?_set_ne (Ne.symm h)]
theorem StrOK.step {s : Bd} {F : List Bool} {j : Nat} (hj : j < F.length) (hn : j < s.ks.length) (hc : strC s F j = true) : StrOK s F (F.set j true):=by
 refine ⟨by simp,fun i hi=>?_,fun B h1 h2 i hi=>?_⟩
 · rw [getB_set hj];split
   · rfl
   · exact hi
 · rw [getB_set hj] at hi
   split at hi
   · rename_i e
     subst e
     refine h2 i hn ?_
     unfold strC at hc
     simp only [Bool.and_eq_true,Bool.or_eq_true,Bool.not_eq_true',decide_eq_true_eq] at hc
     obtain ⟨-,c1,c2⟩:=hc
     have hex : ∃ t ∈ toAt s i,fAt F t = true:=by
      unfold badN at c1
      obtain ⟨t,ht⟩:=List.exists_mem_of_length_pos c1
      exact ⟨t,(List.mem_filter.1 ht).1,(List.mem_filter.1 ht).2⟩
     cases hs : s.sm.getD i false with
     | false =>
      obtain ⟨t,ht,hf⟩:=hex
      exact .inl ⟨hs,t,ht,h1 _ hf⟩
     | true =>
      rw [hs] at c2
      have c2 : badN F (toAt s i) = (toAt s i).length:=by simpa using c2
      refine .inr ⟨hs,fun e=>?_,fun t ht=>h1 _ ?_⟩
      · obtain ⟨t,ht, -⟩:=hex
        rw [e] at ht;cases ht
      · unfold badN at c2
        exact (List.length_filter_eq_length_iff.1 c2) t ht
   · exact h1 i hi
theorem fold_str (s : Bd) : ∀ (l : List Nat) (F : List Bool),(∀ j ∈ l,j < F.length ∧ j < s.ks.length) → StrOK s F (l.foldl (strN s) F) ∧ (((∀ j ∈ l,strC s F j = false) ∧ l.foldl (strN s) F = F) ∨ cntB F < cntB (l.foldl (strN s) F))
 | [],F,_=>⟨StrOK.refl s F,.inl ⟨(fun _ h=>by cases h),rfl⟩⟩
 | j :: l,F,h=>by
  have hj:=h j (by simp)
  simp only [List.foldl_cons]
  by_cases hc : strC s F j = true
  · have e : strN s F j = F.set j true:=by unfold strN;rw [if_pos hc]
    rw [e]
    have ih:=fold_str s l (F.set j true) (fun i hi=>by have:=h i (by simp [hi]);simpa using this)
    have hf : F.getD j false = false:=by
     unfold strC at hc
     simp only [Bool.and_eq_true,Bool.not_eq_true'] at hc
     exact hc.1
    have hcnt:=cnt_set hj.1 hf
    refine ⟨(StrOK.step hj.1 hj.2 hc).trans ih.1,.inr ?_⟩
    rcases ih.2 with ⟨-,e⟩ | e
    · rw [e];omega
    · omega
  · have e : strN s F j = F:=by unfold strN;rw [if_neg hc]
    rw [e]
    have ih:=fold_str s l F (fun i hi=>h i (by simp [hi]))
    refine ⟨ih.1,?_⟩
    rcases ih.2 with ⟨h1,h2⟩ | h2
    · refine .inl ⟨fun i hi=>?_,h2⟩
      rcases List.mem_cons.1 hi with rfl | hi
      · simpa using hc
      · exact h1 i hi
    · exact .inr h2
theorem strF_ok (s : Bd) : ∀ (f : Nat) (F : List Bool),F.length = s.ks.length → s.ks.length + 1 ≤ f + cntB F → StrOK s F (strF s f F) ∧ ∀ j,j < s.ks.length → strC s (strF s f F) j = false
 | 0,F,hl,hf=>by
  have:=cnt_le F
  omega
 | f + 1,F,hl,hf=>by
  have h:=fold_str s (List.range s.ks.length) F (fun j hj=>by have:=List.mem_range.1 hj;omega)
  unfold strF
  by_cases he : strR s F = F
  · rw [if_pos he]
    refine ⟨StrOK.refl s F,fun j hj=>?_⟩
    rcases h.2 with ⟨h1, -⟩ | h2
    · exact h1 j (List.mem_range.2 hj)
    · unfold strR at he
      rw [he] at h2
      omega
  · rw [if_neg he]
    have h3 : cntB F < cntB (strR s F):=by
     rcases h.2 with ⟨-,h2⟩ | h2
     · exact absurd h2 he
     · exact h2
    have ih:=strF_ok s f (strR s F) (h.1.ln.trans hl) (by omega)
    exact ⟨h.1.trans ih.1,ih.2⟩
theorem strike_ok {s : Bd} (hl : s.fl.length = s.ks.length) : StrOK s s.fl (strikeP s) ∧ ∀ j,j < s.ks.length → strC s (strikeP s) j = false:=strF_ok s _ _ hl (by omega)
def sgN (s : Bd) (F : List Bool) (j : Nat) : Nd :=
 if F.getD j false = true then n0 else ⟨(s.ns.getD j n0).k,(s.ns.getD j n0).so,(((s.ns.getD j n0).ls.zip (s.ns.getD j n0).to).filter fun p => !fAt F p.2).map (·.1),(s.ns.getD j n0).to.filter fun t => !fAt F t⟩
def SG (s : Bd) (F : List Bool) : List Nd:=(List.range s.ks.length).map (sgN s F)
theorem SG_len (s : Bd) (F : List Bool) : (SG s F).length = s.ks.length:=by simp [SG]
theorem SG_at {s : Bd} {F : List Bool} {j : Nat} (hj : j < s.ks.length) : gAt (SG s F) (j : Int) = sgN s F j:=by
 unfold gAt SG
 rw [List.getD_eq_getElem?_getD,Int.toNat_natCast,List.getElem?_map,List.getElem?_range hj]
 rfl
theorem zip_filter {α β : Type} (p : β → Bool) : ∀ (l : List α) (m : List β),l.length = m.length → m.filter p = ((l.zip m).filter fun x=>p x.2).map (·.2)
 | [],[],_=>rfl
 | [],_ :: _,h=>by simp at h
 | _ :: _,[],h=>by simp at h
 | a :: l,b :: m,h=>by
  have ih:=zip_filter p l m (by simpa using h)
  simp only [List.zip_cons_cons,List.filter_cons]
  cases p b <;> simp [ih]
theorem zip_at {P : List (ByteArray × Int)} (hn : (P.map (·.1)).Nodup) {l : ByteArray} {t : Int} (h : (l,t) ∈ P) : (P.map (·.2)).getD (ixL l (P.map (·.1))).toNat 0 = t:=by
 obtain ⟨i,hi,e⟩:=List.mem_iff_getElem.1 h
 have h1 : (P.map (·.1))[i]? = some l:=by simp [hi,e]
 rw [ixL_at hn h1]
 simp [List.getD,hi,e]
end Go.Proofs.YtgecnlcbdbaneaaDoor
/- What is left bounds both graphs, and nothing bounds them better: plain. -/
namespace Go.Proofs.YtgecnlcbdbaneaaDoor
open Go.RowKit Go.Sw

structure Full (a b : List Nd) (s : Bd) : Prop where
 wf : WF a.length b.length s
 cm : ∀ j,j < s.ks.length → ∃ q,Cmp a b s j q
def sG (a b : List Nd) (sd : Bool) : List Nd:=bif sd then a else b
def sI (q : Ky) (sd : Bool) : Int:=bif sd then q.i else q.k
section
variable {a b : List Nd} {s : Bd} {q : Ky} {j : Nat}
theorem Full.ok (H : Full a b s) (h : Cmp a b s j q) : okK a.length b.length q:=H.wf.ok q (List.mem_of_getElem? h.k)
theorem Cmp.lt (h : Cmp a b s j q) : j < s.ks.length:=(List.getElem?_eq_some_iff.1 h.k).1
theorem Full.at (H : Full a b s) {c : Ky} {t : Int} (h : IdK s.ks c t) : Cmp a b s t.toNat c:=by
 obtain ⟨d,hd⟩:=H.cm t.toNat (List.getElem?_eq_some_iff.1 h.2).1
 have : some d = some c:=hd.k.symm.trans h.2
 cases this
 exact hd
theorem live_node (H : Full a b s) (h : Cmp a b s j q) (hl : (strikeP s).getD j false = false) : badK a b q = false ∧ flK a b q = false ∧
 ∃ to,s.ns.getD j n0 = ⟨(nA a b q).k,(nA a b q).so,lbK a b q,to⟩ ∧ All2 (IdK s.ks) (chK a b q) to ∧ (smK a b q = false → ∀ t ∈ to,fAt (strikeP s) t = false) ∧ (to ≠ [] → ∃ t ∈ to,fAt (strikeP s) t = false):=by
 obtain ⟨h1,h2⟩:=strike_ok H.wf.l3
 have hfl : s.fl.getD j false = (badK a b q || flK a b q):=by simp [List.getD,h.fl]
 have h3 : (badK a b q || flK a b q) = false:=by
  cases e : (badK a b q || flK a b q) with
  | false=>rfl
  | true =>
   have:=h1.up j (by rw [hfl,e])
   rw [hl] at this
   cases this
 have hb : badK a b q = false:=by
  cases e : badK a b q with
  | false=>rfl
  | true=>rw [e] at h3;simp at h3
 have hf : flK a b q = false:=by
  rw [hb] at h3;simpa using h3
 obtain ⟨to,t1,t2⟩:=h.ng hb
 have hns : s.ns.getD j n0 = ⟨(nA a b q).k,(nA a b q).so,lbK a b q,to⟩:=by simp [List.getD,t1]
 have hsm : s.sm.getD j false = smK a b q:=by simp [List.getD,h.sm,hb]
 have hc:=h2 j h.lt
 unfold strC at hc
 rw [hl,hsm,show toAt s j = to by unfold toAt;rw [hns]] at hc
 simp only [Bool.not_false,Bool.true_and,Bool.and_eq_false_iff,decide_eq_false_iff_not,Bool.or_eq_false_iff,Bool.not_eq_false'] at hc
 refine ⟨hb,hf,to,hns,t2,fun hs t ht=>?_,fun hne=>?_⟩
 · rcases hc with hc | hc
   · have : (to.filter (fAt (strikeP s))).length = 0:=by unfold badN at hc;omega
     cases e : fAt (strikeP s) t with
     | false=>rfl
     | true =>
      have hm : t ∈ to.filter (fAt (strikeP s)):=List.mem_filter.2 ⟨ht,e⟩
      rw [List.length_eq_zero_iff] at this
      rw [this] at hm;cases hm
   · rw [hs] at hc;simp at hc
 · by_cases hall : ∀ t ∈ to,fAt (strikeP s) t = true
   · exfalso
     have e : badN (strikeP s) to = to.length:=by
      unfold badN
      exact List.length_filter_eq_length_iff.2 hall
     have hp : 0 < to.length:=List.length_pos_iff.2 hne
     rcases hc with hc | hc
     · omega
     · exact hc.2 e
   · have : ∃ t ∈ to, ¬ fAt (strikeP s) t = true:=by
      refine Classical.byContradiction fun hn=>hall fun t ht=>?_
      refine Classical.byContradiction fun h2=>hn ⟨t,ht,h2⟩
     obtain ⟨t,ht,h⟩:=this
     exact ⟨t,ht,by simpa using h⟩
theorem ch_len (hc : chB (nA a b q) = true) : chK a b q = (lbK a b q).map fun l=>nxK a b q (ixY a q.i l) (ixY b q.k l) q.u:=by
 have:=ch_iff.1 hc
 unfold chK
 rw [if_neg (by omega),if_neg (by omega),if_neg (by omega),if_pos hc]
theorem lab_ch (hc : chB (nA a b q) = true) {to : List Int} (ht : All2 (IdK s.ks) (chK a b q) to) : (lbK a b q).length = to.length ∧
 (∀ l t,(l,t) ∈ (lbK a b q).zip to → IdK s.ks (nxK a b q (ixY a q.i l) (ixY b q.k l) q.u) t) ∧ ∀ l ∈ lbK a b q, ∃ t,(l,t) ∈ (lbK a b q).zip to:=by
 rw [ch_len hc] at ht
 have hlen:=ht.len
 rw [List.length_map] at hlen
 refine ⟨hlen.symm,fun l t hm=>?_,fun l hl=>?_⟩
 · obtain ⟨p,hp,e⟩:=List.mem_iff_getElem.1 hm
   rw [List.getElem_zip] at e
   cases e
   have hp1 : p < (lbK a b q).length:=by simp at hp;omega
   have hp2 : p < to.length:=by omega
   obtain ⟨u,h1,h2⟩:=ht.get p _ (by rw [List.getElem?_map,List.getElem?_eq_getElem hp1];rfl)
   rw [List.getElem?_eq_getElem hp2] at h1
   cases h1
   exact h2
 · obtain ⟨p,hp,rfl⟩:=List.mem_iff_getElem.1 hl
   have hp2 : p < to.length:=by omega
   refine ⟨to[p],List.mem_iff_getElem.2 ⟨p,by simp;omega,by rw [List.getElem_zip]⟩⟩
theorem lb_none (hc : chB (nA a b q) = false) : lbK a b q = []:=by
 unfold lbK
 rw [if_neg (by rw [hc];decide)]
theorem lb_sort (Ha : Gd a) (Hb : Gd b) (h : okK a.length b.length q) : (lbK a b q).Pairwise ltB ∧ ∀ l ∈ lbK a b q,isNameB l = true:=by
 cases hc : chB (nA a b q) with
 | false=>rw [lb_none hc];exact ⟨.nil,(fun l h=>by cases h)⟩
 | true =>
  refine ⟨?_,fun l hl=>?_⟩
  · unfold lbK
    rw [if_pos hc]
    have hx:=labels_sort ((nA_sh Ha Hb h).lab (ch_iff.1 hc)).2
    split
    · split
      · exact int_sort hx
      · exact uni_sort _ _
    · exact hx
  · rcases lb_side h hc hl with ⟨h1,h2⟩ | ⟨h1,h2⟩
    · exact Ha.lab (h.ir h1) l h2
    · exact Hb.lab (h.kr h1) l h2
structure Left (a b : List Nd) (s : Bd) (j : Nat) (q : Ky) (z : Nd) : Prop where
 k : z.k = (nA a b q).k
 so : z.so = (nA a b q).so
 sh : shN z
 one : (nA a b q).k = 2 ∨ (nA a b q).k = 3 → ∃ t,z.to = [t] ∧ IdK s.ks (nxK a b q 0 0 q.u) t ∧ fAt (strikeP s) t = false
 four : (nA a b q).k = 4 → ∃ t t',z.to = [t,t'] ∧ IdK s.ks (nxK a b q 0 0 (1 - q.u)) t ∧ IdK s.ks (nxK a b q 1 1 q.u) t' ∧ fAt (strikeP s) t = false ∧ fAt (strikeP s) t' = false
 five : (nA a b q).k = 5 → ∃ t t',z.to = [t,t'] ∧ IdK s.ks (nxK a b q 0 0 q.u) t ∧ IdK s.ks (nxK a b q 1 1 q.u) t' ∧ fAt (strikeP s) t = false ∧ fAt (strikeP s) t' = false
 lab : chB (nA a b q) = true → ∀ l ∈ z.ls,l ∈ lbK a b q ∧ IdK s.ks (nxK a b q (ixY a q.i l) (ixY b q.k l) q.u) (atL z l) ∧ fAt (strikeP s) (atL z l) = false
 has : chB (nA a b q) = true → ∀ l ∈ lbK a b q, ∃ t,IdK s.ks (nxK a b q (ixY a q.i l) (ixY b q.k l) q.u) t ∧ (fAt (strikeP s) t = false → l ∈ z.ls)
 all : chB (nA a b q) = true → smK a b q = false → ∀ l ∈ lbK a b q,l ∈ z.ls
 to : ∀ t ∈ z.to,fAt (strikeP s) t = false ∧ 0 ≤ t ∧ t.toNat < s.ks.length
 nm : ∀ l ∈ z.ls,isNameB l = true
theorem id_lt {ks : List Ky} {c : Ky} {t : Int} (h : IdK ks c t) : 0 ≤ t ∧ t.toNat < ks.length:=⟨h.1,(List.getElem?_eq_some_iff.1 h.2).1⟩
theorem all2_lt {ks : List Ky} : ∀ {cs : List Ky} {to : List Int},All2 (IdK ks) cs to → ∀ t ∈ to,0 ≤ t ∧ t.toNat < ks.length
 | _,_,.nil,t,h=>by cases h
 | _,_,.cons r l,t,h=>by
  rcases List.mem_cons.1 h with rfl | h
  · exact id_lt r
  · exact all2_lt l t h
theorem filt_all {F : List Bool} {to : List Int} (h : ∀ t ∈ to,fAt F t = false) : to.filter (fun t => !fAt F t) = to:=List.filter_eq_self.2 fun t ht=>by rw [h t ht];rfl
theorem all2_one {R : Ky → Int → Prop} {c : Ky} {to : List Int} (h : All2 R [c] to) : ∃ t,to = [t] ∧ R c t:=by
 cases h with
 | cons r l=>cases l with
  | nil=>exact ⟨_,rfl,r⟩
theorem all2_two {R : Ky → Int → Prop} {c d : Ky} {to : List Int} (h : All2 R [c,d] to) : ∃ t t',to = [t,t'] ∧ R c t ∧ R d t':=by
 cases h with
 | cons r l=>cases l with
  | cons r' l=>cases l with
   | nil=>exact ⟨_,_,rfl,r,r'⟩
theorem left_node (Ha : Gd a) (Hb : Gd b) (H : Full a b s) (h : Cmp a b s j q) (hl : (strikeP s).getD j false = false) : Left a b s j q (gAt (SG s (strikeP s)) j):=by
 obtain ⟨hb,hf,to,hns,ht,hall,hex⟩:=live_node H h hl
 have hq:=H.ok h
 have hsh:=nA_sh Ha Hb hq
 have hz : gAt (SG s (strikeP s)) (j : Int) = ⟨(nA a b q).k,(nA a b q).so,(((lbK a b q).zip to).filter fun p => !fAt (strikeP s) p.2).map (·.1),to.filter fun t => !fAt (strikeP s) t⟩:=by
  rw [SG_at h.lt]
  unfold sgN
  rw [if_neg (by rw [hl];decide),hns]
 rw [hz]
 have hlt:=all2_lt ht
 have hto : ∀ t ∈ to.filter (fun t => !fAt (strikeP s) t),fAt (strikeP s) t = false ∧ 0 ≤ t ∧ t.toNat < s.ks.length:=fun t h=>by
  have:=List.mem_filter.1 h
  exact ⟨by simpa using this.2,hlt t this.1⟩
 cases hc : chB (nA a b q) with
 | false =>
  have hlb:=lb_none hc
  have hsm : smK a b q = false:=by unfold smK;rw [hc];rfl
  have hta:=filt_all (hall hsm)
  rw [hta] at hto
  have hn : ¬ ((nA a b q).k = 6 ∨ (nA a b q).k = 7):=fun e=>by rw [ch_iff.2 e] at hc;cases hc
  have el : (((lbK a b q).zip to).filter fun p => !fAt (strikeP s) p.2).map (·.1) = []:=by rw [hlb];rfl
  rw [el,hta]
  have k1 : (nA a b q).k = 2 ∨ (nA a b q).k = 3 → ∃ t,to = [t] ∧ IdK s.ks (nxK a b q 0 0 q.u) t:=fun hk=>by
   refine all2_one ?_
   unfold chK at ht
   rwa [if_pos hk] at ht
  have k4 : (nA a b q).k = 4 → ∃ t t',to = [t,t'] ∧ IdK s.ks (nxK a b q 0 0 (1 - q.u)) t ∧ IdK s.ks (nxK a b q 1 1 q.u) t':=fun hk=>by
   refine all2_two ?_
   unfold chK at ht
   rwa [if_neg (by omega),if_pos hk] at ht
  have k5 : (nA a b q).k = 5 → ∃ t t',to = [t,t'] ∧ IdK s.ks (nxK a b q 0 0 q.u) t ∧ IdK s.ks (nxK a b q 1 1 q.u) t':=fun hk=>by
   refine all2_two ?_
   unfold chK at ht
   rwa [if_neg (by omega),if_neg (by omega),if_pos hk] at ht
  have k0 : (nA a b q).k = 1 → to = []:=fun hk=>by
   unfold chK at ht
   rw [if_neg (by omega),if_neg (by omega),if_neg (by omega),if_neg (by rw [hc];decide)] at ht
   cases ht
   rfl
  refine ⟨rfl,rfl,?_,fun hk=>?_,fun hk=>?_,fun hk=>?_,(fun e=>by rw [hc] at e;cases e),(fun e=>by rw [hc] at e;cases e),(fun e=>by rw [hc] at e;cases e),hto,(fun l h=>by cases h)⟩
  · show shp _ _ _ _
    rcases hsh with ⟨e1,e2,e3,e4⟩ | ⟨e1,e2,e3,e4⟩ | ⟨e1,e2,e3,e4⟩ | ⟨e1, -, -, -⟩
    · exact .inl ⟨e1,e2,rfl,by simp only;rw [k0 e1];rfl⟩
    · obtain ⟨t,e, -⟩:=k1 e1
      exact .inr (.inl ⟨e1,e2,rfl,by simp only;rw [e];rfl⟩)
    · have : ∃ t t',to = [t,t']:=by
       rcases e1 with e | e
       · obtain ⟨t,t',e, -⟩:=k4 e
         exact ⟨t,t',e⟩
       · obtain ⟨t,t',e, -⟩:=k5 e
         exact ⟨t,t',e⟩
      obtain ⟨t,t',e⟩:=this
      exact .inr (.inr (.inl ⟨e1,e2,rfl,by simp only;rw [e];rfl⟩))
    · exact absurd e1 hn
  · obtain ⟨t,rfl,h1⟩:=k1 hk
    exact ⟨t,rfl,h1,(hto t (by simp)).1⟩
  · obtain ⟨t,t',rfl,h1,h2⟩:=k4 hk
    exact ⟨t,t',rfl,h1,h2,(hto t (by simp)).1,(hto t' (by simp)).1⟩
  · obtain ⟨t,t',rfl,h1,h2⟩:=k5 hk
    exact ⟨t,t',rfl,h1,h2,(hto t (by simp)).1,(hto t' (by simp)).1⟩
 | true =>
  have hk:=ch_iff.1 hc
  obtain ⟨l1,l2,l3⟩:=lab_ch hc ht
  obtain ⟨s1,s2⟩:=lb_sort Ha Hb hq
  have hzf:=zip_filter (fun t => !fAt (strikeP s) t) (lbK a b q) to l1
  rw [hzf] at hto ⊢
  generalize hP : ((lbK a b q).zip to).filter (fun p => !fAt (strikeP s) p.2) = P at *
  have hPm : ∀ p,p ∈ P ↔ p ∈ (lbK a b q).zip to ∧ fAt (strikeP s) p.2 = false:=fun p=>by
   rw [← hP,List.mem_filter];simp
  have hsub : (P.map (·.1)).Sublist (lbK a b q):=by
   have h1 : P.Sublist ((lbK a b q).zip to):=by rw [← hP];exact List.filter_sublist
   have h2:=h1.map (·.1)
   rwa [List.map_fst_zip (by omega)] at h2
  have hsrt:=s1.sublist hsub
  have hnd:=sort_nodup hsrt
  have hlb : ¬ (lbK a b q).length = 0 ∧ (lbK a b q).length ≤ 6:=by
   unfold flK at hf
   rw [hc] at hf
   simp only [Bool.true_and,Bool.or_eq_false_iff,decide_eq_false_iff_not] at hf
   exact ⟨hf.1,by omega⟩
  have hne : to ≠ []:=fun e=>by rw [e] at l1;simp at l1;rw [l1] at hlb;simp at hlb
  have hlen1 : 1 ≤ (P.map (·.1)).length:=by
   obtain ⟨t,t1,t2⟩:=hex hne
   obtain ⟨p,hp,e⟩:=List.mem_iff_getElem.1 t1
   have hm : ((lbK a b q)[p]'(by omega),t) ∈ P:=(hPm _).2 ⟨List.mem_iff_getElem.2 ⟨p,by simp;omega,by rw [List.getElem_zip,e]⟩,t2⟩
   rw [List.length_map]
   exact List.length_pos_of_mem hm
  have hlen6 : (P.map (·.1)).length ≤ 6:=Nat.le_trans hsub.length_le hlb.2
  have hnm : ∀ l ∈ P.map (·.1),isNameB l = true:=fun l hl=>s2 l (hsub.subset hl)
  have hat : ∀ l t,(l,t) ∈ P → atL ⟨(nA a b q).k,(nA a b q).so,P.map (·.1),P.map (·.2)⟩ l = t:=fun l t h=>zip_at hnd h
  refine ⟨rfl,rfl,?_,fun e=>by omega,fun e=>by omega,fun e=>by omega,fun _ l hl=>?_,fun _ l hl=>?_,fun _ hs l hl=>?_,hto,hnm⟩
  · show shp _ _ _ _
    refine .inr (.inr (.inr ⟨hk,?_,labels_of hlen1 hlen6 hnm hsrt,by simp⟩))
    rcases hsh with ⟨e1, -, -, -⟩ | ⟨e1, -, -, -⟩ | ⟨e1, -, -, -⟩ | ⟨-,e2, -, -⟩
    · omega
    · omega
    · omega
    · exact e2
  · obtain ⟨p,hp,rfl⟩:=List.mem_map.1 hl
    obtain ⟨l,t⟩:=p
    have hp2:=(hPm _).1 hp
    refine ⟨hsub.subset hl,?_,?_⟩
    · rw [hat l t hp];exact l2 l t hp2.1
    · rw [hat l t hp];exact hp2.2
  · obtain ⟨t,h1⟩:=l3 l hl
    exact ⟨t,l2 l t h1,fun e=>List.mem_map.2 ⟨(l,t),(hPm _).2 ⟨h1,e⟩,rfl⟩⟩
  · obtain ⟨t,h1⟩:=l3 l hl
    have htm : t ∈ to:=(List.of_mem_zip h1).2
    exact List.mem_map.2 ⟨(l,t),(hPm _).2 ⟨h1,hall hs t htm⟩,rfl⟩
end
end Go.Proofs.YtgecnlcbdbaneaaDoor
