/- slices.Sort, slices.Compact and slices.Clone of texts, on a row that is the caller's own; of a sorted row it leaves each text once. -/
import Derived.Test.YtdcplkefmpjppaaGreatDoorU1
import Derived.Test.YtdcplkefmpjppaaGreatDoorSwC
import Derived.Test.YtdcplkefmpjppaaGreatDoorShelfQ
-- TYPESA
set_option linter.unusedVariables false
set_option linter.unusedSimpArgs false
namespace Go.Proofs.YtdcplkefmpjppaaGreatDoor.GG
open Go.RowKit Go.Sw Go.Sort

theorem compact_in {α : Type} [Inhabited α] [DecidableEq α] {zs : List α} {x : α} : x ∈ Lib.compact zs ↔ x ∈ zs:=by
 unfold Lib.compact Lib.compactUpTo
 constructor
 · intro h
   obtain ⟨j,hj,rfl⟩:=List.mem_map.1 h
   have:=List.mem_range.1 (List.mem_filter.1 hj).1
   simp [this]
 · intro h
   obtain ⟨i,hi,rfl⟩:=List.getElem_of_mem h
   have key : ∀ j,j < zs.length → zs.toArray[j]! ∈ ((List.range zs.length).filter (Lib.keeps zs.toArray)).map (zs.toArray[·]!):=by
    intro j
    induction j with
    | zero=>intro hj;exact List.mem_map.2 ⟨0,List.mem_filter.2 ⟨List.mem_range.2 hj,by simp [Lib.keeps]⟩,rfl⟩
    | succ j ih =>
     intro hj
     by_cases hk : Lib.keeps zs.toArray (j + 1) = true
     · exact List.mem_map.2 ⟨j + 1,List.mem_filter.2 ⟨List.mem_range.2 hj,hk⟩,rfl⟩
     · have he : zs.toArray[j + 1]! = zs.toArray[j]! := by
        by_cases he : zs.toArray[j + 1]! = zs.toArray[j]!
        · exact he
        · exact absurd (Lib.keeps_pos (m:=j + 1) (by simpa using he)) hk
       rw [he]
       exact ih (by omega)
   have:=key i hi
   simpa [hi] using this
theorem compact_len {α : Type} [Inhabited α] [DecidableEq α] (zs : List α) : (Lib.compact zs).length ≤ zs.length:=by
 unfold Lib.compact Lib.compactUpTo
 rw [List.length_map]
 exact Nat.le_trans (List.length_filter_le _ _) (by simp)
def bytesL (L : List ByteArray) : List (List UInt8):=L.map fun s=>s.data.toList
def packL (ss : List (List UInt8)) : List ByteArray:=ss.map fun l=>⟨l.toArray⟩
theorem pack_bytes (L : List ByteArray) : packL (bytesL L) = L:=by
 unfold packL bytesL
 rw [List.map_map]
 conv=>rhs;rw [← List.map_id L]
 apply List.map_congr_left
 intro s _
 rfl
theorem bytes_pack (ss : List (List UInt8)) : bytesL (packL ss) = ss:=by
 unfold packL bytesL
 rw [List.map_map]
 conv=>rhs;rw [← List.map_id ss]
 apply List.map_congr_left
 intro s _
 simp
def sortS (L : List ByteArray) : List ByteArray:=packL ((bytesL L).mergeSort fun x y=>decide (x ≤ y))
def compS (L : List ByteArray) : List ByteArray:=packL (Lib.compact (bytesL L))
theorem sortS_len (L : List ByteArray) : (sortS L).length = L.length:=by simp [sortS,packL,bytesL]
theorem compS_len (L : List ByteArray) : (compS L).length ≤ L.length:=by
 have:=compact_len (bytesL L)
 simp only [compS,packL,List.length_map]
 simpa [bytesL] using this
theorem sortS_mem (L : List ByteArray) (s : ByteArray) : s ∈ sortS L ↔ s ∈ L:=by
 have h : s ∈ packL (bytesL L) ↔ s ∈ sortS L:=by
  unfold sortS packL
  simp only [List.mem_map]
  constructor
  · rintro ⟨l,h,rfl⟩;exact ⟨l,(List.mergeSort_perm _ _).mem_iff.2 h,rfl⟩
  · rintro ⟨l,h,rfl⟩;exact ⟨l,(List.mergeSort_perm _ _).mem_iff.1 h,rfl⟩
 rw [pack_bytes] at h
 exact h.symm
theorem compS_mem (L : List ByteArray) (s : ByteArray) : s ∈ compS L ↔ s ∈ L:=by
 have h : s ∈ packL (bytesL L) ↔ s ∈ compS L:=by
  unfold compS packL
  simp only [List.mem_map]
  constructor
  · rintro ⟨l,h,rfl⟩;exact ⟨l,compact_in.2 h,rfl⟩
  · rintro ⟨l,h,rfl⟩;exact ⟨l,compact_in.1 h,rfl⟩
 rw [pack_bytes] at h
 exact h.symm

theorem ds_texts {w : World} {M : Nat → Prop} : ∀ {L : List ByteArray} {us : List Value},RpD w M (.ds ((L.map sD).flatMap D.cells) us) → us = L.map .string
 | [],_,h=>by cases h;rfl
 | s :: L,us,h=>by
  simp only [List.map_cons,List.flatMap_cons,D.cells,List.cons_append,List.nil_append] at h
  cases h with
  | dsc h1 h2=>cases h1;rw [ds_texts h2];rfl
theorem ds_textsI {w : World} {M : Nat → Prop} : ∀ (L : List ByteArray),RpD w M (.ds ((L.map sD).flatMap D.cells) (L.map .string))
 | []=>.dsn
 | s :: L=>by
  simp only [List.map_cons,List.flatMap_cons,D.cells,List.cons_append,List.nil_append]
  exact .dsc (.v _ rfl) (ds_textsI L)
theorem putCells_get (off : Nat) (d : Array (List UInt8)) (c : Array Value) (k : Nat) : (putCells encStr off d c)[k]? = (c[k]?).map fun x=>if off ≤ k ∧ k < off + d.size then encStr d[k - off]! else x:=by
 unfold putCells
 rw [Array.getElem?_mapIdx]
theorem putCells_size (off : Nat) (d : Array (List UInt8)) (c : Array Value) : (putCells encStr off d c).size = c.size:=by
 unfold putCells;simp
theorem putCells_take (d : Array (List UInt8)) (c : Array Value) (m : Nat) (hm : m ≤ d.size) (hc : d.size ≤ c.size) : (putCells encStr 0 d c).toList.take m = (packL (d.toList.take m)).map .string:=by
 apply List.ext_getElem?
 intro i
 by_cases hi : i < m
 · rw [List.getElem?_take_of_lt hi,Array.getElem?_toList,putCells_get]
   have h1 : i < c.size:=by omega
   have h2 : i < d.size:=by omega
   simp [packL,hi,h1,h2]
 · rw [List.getElem?_eq_none (by simp;omega),List.getElem?_eq_none (by simp [packL];omega)]
theorem putRow_at (d : Array (List UInt8)) (w : World) (g e : Nat) (cur : Array Value) (fr : Nat × Nat) (h : w.heap[g]? = some (.cells cur e fr)) : (putRow encStr w g 0 d).heap[g]? = some (.cells (putCells encStr 0 d cur) e fr):=by
 unfold putRow mapBlock
 simp only
 rw [Array.getElem?_modify,h]
 simp [onCells]
theorem putRow_off (d : Array (List UInt8)) (w : World) (g b : Nat) (h : b ≠ g) : (putRow encStr w g 0 d).heap[b]? = w.heap[b]? := by
 unfold putRow mapBlock
 simp only
 rw [Array.getElem?_modify,if_neg (fun q=>h q.symm)]
theorem row_is {F : Nat → Prop} {β : Nat → Value} {s : St} {w : World} {i : Nat} {L : List ByteArray} (hne : L ≠ []) (hW : WR F β s w) (hl : lk i s = some (.row 1 (L.map sD))) :
 ∃ g cap e cur, β i = .slice (some ⟨g,0,none⟩) L.length cap ∧ w.heap[g]? = some (.cells cur e (0,0)) ∧ L.length ≤ cap ∧ cap ≤ maxLen ∧ cur.size = cap ∧ cur.toList.take L.length = L.map .string ∧ Holds encStr w g 0 (bytesL L).toArray:=by
 obtain ⟨-, -,e,xs,⟨hxl,hv⟩,hds, -⟩:=hW.boxes i _ hl
 have hxs:=ds_texts hds
 rcases hv with ⟨-,h0⟩ | ⟨g,cap,cur,h1, -,h2,h3,h4,h5,h6⟩
 · simp at h0;exact absurd h0 hne
 · simp only [List.length_map,Nat.mul_one] at h1 h3 h5 h6
   rw [hxs] at h6
   refine ⟨g,cap,e,cur,h1,h2,h3,h4,h5,h6,fun j hj=>?_⟩
   have hjl : j < L.length:=by simpa [bytesL] using hj
   have hcj : cur[j]? = some (.string L[j]):=by
    have : (cur.toList.take L.length)[j]? = (L.map Value.string)[j]? := by rw [h6]
    rw [List.getElem?_take_of_lt hjl,Array.getElem?_toList] at this
    rw [this];simp [hjl]
   refine ⟨?_,?_⟩
   · rw [Nat.zero_add]
     simp only [World.cell?,h2]
     simp [hcj,bytesL,hjl]
   · simp [World.frozen?,h2]
theorem row_nil {F : Nat → Prop} {β : Nat → Value} {s : St} {w : World} {i k : Nat} (hW : WR F β s w) (hl : lk i s = some (.row k [])) : ∃ a c, β i = .slice a 0 c:=by
 obtain ⟨-, -,e,xs,⟨hxl,hv⟩, -, -⟩:=hW.boxes i _ hl
 rcases hv with ⟨h, -⟩ | ⟨g,cap,cur,h, -⟩
 · exact ⟨_,_,h⟩
 · exact ⟨_,_,h⟩
theorem own_arg {w : World} {F : Nat → Prop} {β : Nat → Value} {s : St} {i : Nat} {us : List Value} (hu : Rp w F β s (.ss [.own i] us)) : us = [β i]:=by
 cases hu with
 | ssc h1 h2=>cases h2;cases h1;rfl
theorem texts_lean (L : List ByteArray) : ∀ x ∈ L.map sD,x.cells.length = 1:=fun x hx=>by
 obtain ⟨s, -,rfl⟩:=List.mem_map.1 hx;rfl
theorem texts_one (L : List ByteArray) : ∀ u ∈ L.map Value.string,u.oneCell' = true:=fun u hu=>by
 obtain ⟨s, -,rfl⟩:=List.mem_map.1 hu;rfl
theorem put_again {i : Nat} {bx : Box} : ∀ {s : St},lk i s = some bx → ∀ j,lk j (put i bx s) = lk j s:=fun {s} h j=>by
 by_cases hj : j = i
 · subst hj;rw [lk_put_same,h]
 · rw [lk_put_ne _ hj]

theorem sortS_nil : sortS [] = []:=by simp [sortS,packL,bytesL]
theorem compS_nil : compS [] = []:=by simp [compS,packL,bytesL,Lib.compact,Lib.compactUpTo]
theorem sort_calls {N : Nat} {Γ : Gl} {C : Cx Tryz.prog N Γ} {β : Nat → Value} {e : Env} {s : St} {a : Act} {w : World} (inv : InvB C β e s a w) {i : Nat} {L : List ByteArray} (hs : lk i s = some (.row 1 (L.map sD))) (hl : L.length ≤ 1099511627776) :
 Calls Tryz.prog 35 #[β i] w fun en w'=>en = .returned (.tuple #[]) ∧ InvB C β e (put i (.row 1 ((sortS L).map sD)) s) a w':=by
 by_cases hne : L = []
 · subst hne
   obtain ⟨a1,c1,hβ⟩:=row_nil inv.wr hs
   rw [hβ]
   refine (Tryz.slices_Sort_string_none a1 c1 w).mono ?_
   rintro en w' ⟨rfl,rfl⟩
   refine ⟨rfl,inv.same ?_⟩
   rw [sortS_nil];exact put_again hs
 obtain ⟨g,cap,el,cur,hβ,hg,hle,hcap,hsize,htake,hH⟩:=row_is hne inv.wr hs
 have hbl : (bytesL L).length = L.length:=by simp [bytesL]
 have hlt : g < w.heap.size:=(Array.getElem?_eq_some_iff.1 hg).1
 rw [hβ]
 have hcall:=Tryz.slices_Sort_string g 0 cap (bytesL L) w hH hlt (by omega)
 rw [hbl] at hcall
 refine hcall.mono ?_
 rintro en w' ⟨rfl,n,os,rfl⟩
 have hoff : ∀ b,b < w.heap.size → b ≠ g → (grow (putRow encStr (Sort.ahead w n) g 0 ((bytesL L).mergeSort fun x y=>decide (x ≤ y)).toArray) os).heap[b]? = w.heap[b]? := fun b hb hbg=>by
  simp only [grow]
  rw [Array.getElem?_append_left (by simpa using hb)]
  exact putRow_off _ _ g b hbg
 have hat : (grow (putRow encStr (Sort.ahead w n) g 0 ((bytesL L).mergeSort fun x y=>decide (x ≤ y)).toArray) os).heap[g]? = some (.cells (putCells encStr 0 ((bytesL L).mergeSort fun x y=>decide (x ≤ y)).toArray cur) el (0,0)):=by
  simp only [grow]
  rw [Array.getElem?_append_left (by simpa using hlt)]
  exact putRow_at _ _ g el cur _ hg
 have htk : (putCells encStr 0 ((bytesL L).mergeSort fun x y=>decide (x ≤ y)).toArray cur).toList.take L.length = (sortS L).map .string:=by
  rw [putCells_take _ _ _ (by simp [bytesL]) (by simp [bytesL];omega)]
  rw [List.take_of_length_le (by simp [bytesL])]
  rfl
 exact ⟨rfl,rowkeepI inv (w':=grow (putRow encStr (Sort.ahead w n) g 0 ((bytesL L).mergeSort fun x y=>decide (x ≤ y)).toArray) os) (L':=(sortS L).map sD) (xs:=(sortS L).map .string) (el:=el) hs (by simp [sortS_len]) rfl rfl rfl (by simp [grow])
  (fun b hb hn=>hoff b hb (fun q=>hn (by rw [hβ,q];rfl))) (by omega) (texts_lean _)
  ⟨by simp,.inr ⟨g,cap,_,by rw [hβ];simp [sortS_len],Nat.zero_le _,hat,by simpa [sortS_len] using hle,hcap,by rw [putCells_size,hsize];omega,by simpa [sortS_len] using htk⟩⟩ (ds_textsI _) (texts_one _)⟩
theorem sort_ent : entB Tryz.prog 35 = true:=by kernel_rfl
theorem stop_sort {N : Nat} {Γ : Gl} {C : Cx Tryz.prog N Γ} {ops rest : List Oper} {e : Env} {s : St} {K : Exit → Env → St → Prop} {dst : Option Tmp} {x : Operand} {ats : Array TypeId} {ty : TypeId} {pos : String} {af : Array Edge} {i : Nat} (L : List ByteArray)
 (hB : regOK N (⟨dst,.call ⟨.value (.func 35), #[x],ats⟩,ty,pos,af,none⟩ :: rest) = true) (hx : val e x = .own i) (hs : lk i s = some (.row 1 (L.map sD))) (hl : L.length ≤ 1099511627776)
 (h : vcOps C ops rest (putO dst (.tup []) e) (put i (.row 1 ((sortS L).map sD)) s) K) : Stop C ops (⟨dst,.call ⟨.value (.func 35), #[x],ats⟩,ty,pos,af,none⟩ :: rest) e s K:=by
 intro β a w inv
 simp only [regOK,List.all_cons,Bool.and_eq_true,opOK] at hB
 obtain ⟨⟨hdst,ho⟩,hB'⟩:=hB
 have hao : opdOK x = true:=by
  simp [Op.operands,Call.operands] at ho
  exact ho.2
 have ih:=vcOps_ok (ops:=ops) hB' h
 refine wpList_plain rfl fun K' hK'=>?_
 unfold Oper.wp
 rw [run_call sort_ent]
 have hr:=oks_rp inv [x] (by simp [hao]) (by simp [vals,hx,oks,ok1])
 have hxv : opn (val e x) = .own i:=by rw [hx];rfl
 simp only [vals,opns,hxv] at hr
 have he : [x].map a.eval = [β i]:=own_arg hr
 have he2 : (#[x].toList.map a.eval).toArray = #[β i]:=by rw [show #[x].toList.map a.eval = [β i] from he]
 rw [he2]
 refine (sort_calls inv hs hl).mono ?_
 rintro en w' ⟨rfl,i2⟩
 exact hK' _ _ (ih β _ _ (i2.put dst hdst (.tup .ssn)))
theorem compS_fn (Γ : Gl) (L : List ByteArray) (hl : L.length ≤ 1099511627776) : SFn Tryz.prog Γ 37 [.own 0] [(0,.row 1 (L.map sD))] (.own 0) [(0,.row 1 ((compS L).map sD))]:=by
 have hs : lk 0 [(0,Box.row 1 (L.map sD))] = some (.row 1 (L.map sD)):=rfl
 refine sfn_of_inv (by kernel_rfl) fun C β a w us hC inv hu=>?_
 obtain rfl:=own_arg hu
 have hcS : (compS L).length = (Lib.compact (bytesL L)).length:=by simp [compS,packL]
 by_cases hne : L = []
 · subst hne
   obtain ⟨a1,c1,hβ⟩:=row_nil inv.wr hs
   have hr : Rp w C.F β [(0,Box.row 1 (([] : List ByteArray).map sD))] (.s (.own 0) (β 0)):=Rp.own hs
   rw [hβ] at hr ⊢
   refine (Tryz.slices_Compact_string_empty a1 c1 w).mono ?_
   rintro en w' ⟨rfl,rfl⟩
   rw [compS_nil]
   exact ⟨_, β,_,rfl,inv,hr⟩
 obtain ⟨g,cap,e,cur,hβ,hg,hle,hcap,hsize,htake,hH⟩:=row_is hne inv.wr hs
 have hbl : (bytesL L).length = L.length:=by simp [bytesL]
 have hlt : g < w.heap.size:=(Array.getElem?_eq_some_iff.1 hg).1
 rw [hβ]
 have hcall:=Tryz.slices_Compact_string g 0 cap (bytesL L) w hH (by omega) (by omega)
 rw [hbl] at hcall
 refine hcall.mono ?_
 rintro en w' ⟨rfl,n,rfl⟩
 have hcl:=compact_len (bytesL L)
 generalize hd : (Lib.compact (bytesL L) ++ List.replicate (L.length - (Lib.compact (bytesL L)).length) []).toArray = d
 have hdl : d.size = L.length:=by rw [← hd];simp;omega
 have htk : (putCells encStr 0 d cur).toList.take (compS L).length = (compS L).map .string:=by
  rw [hcS,putCells_take _ _ _ (by omega) (by omega), ← hd]
  rw [List.toList_toArray,List.take_left']
  · rfl
  · rfl
 have i2:=inv.rowset (w':=putRow encStr (Sort.ahead w n) g 0 d) (L':=(compS L).map sD) (xs:=(compS L).map .string) (el:=e) (v':=.slice (some ⟨g,0,none⟩) (compS L).length cap) (b':=g) hs rfl (.inl (by rw [hβ];rfl)) rfl rfl rfl (by simp)
  (fun b hb hn=>putRow_off _ _ g b (fun q=>hn (by rw [hβ,q];rfl))) (by omega) (texts_lean _)
  ⟨by simp,.inr ⟨g,cap,_,by simp,Nat.zero_le _,putRow_at _ _ g e cur _ hg,by simp;omega,hcap,by rw [putCells_size,hsize];omega,by simpa using htk⟩⟩ (ds_textsI _) (texts_one _)
 refine ⟨_,_,_,by rw [← hcS],i2,?_⟩
 have:=Rp.own (w:=putRow encStr (Sort.ahead w n) g 0 d) (F:=C.F) (β := bset β 0 (.slice (some ⟨g,0,none⟩) (compS L).length cap)) (s:=[(0,Box.row 1 ((compS L).map sD))]) (i:=0) rfl
 rwa [bset_same] at this
set_option maxHeartbeats 4000000 in
set_option maxRecDepth 100000 in
theorem cloneS_d (Γ : Gl) (l : List ByteArray) (hl : l.length * 16 ≤ 140737488355328) : DFn Tryz.prog Γ 36 [.slc (l.map sD)] (.slc (l.map sD)):=by
 refine fn_of_swp (N:=8) Tryz.func36 rfl (by decide) rfl rfl (by simp) (fun C h0=>?_)
 simp only [argE]
 repeat' (first|(with_reducible first|refine swp_seq ?_|refine swp_block ?_|refine swp_skip ?_|refine swp_exit ?_|refine swp_label ?_|refine kseq_n ?_|refine kseq_x ?_|refine kseq_r ?_|refine kblk_n ?_|refine kblk_r ?_|refine kblk_xs ?_|refine kloop_x ?_|refine kloop_r ?_)|((with_reducible refine kblk_xn ?_ ?_);rfl)|((with_reducible refine swp_regionP ?_ ?_ (fun K' hK'=>?_));rfl;rfl;simp only [WA,simprocAttr];(repeat (constructor;focus (clear hK';intros;simp_all;done)));(try (apply hK';clear hK' K')))|((with_reducible refine swp_cond ?_ ?_);rfl;refine ⟨_,rfl,fun h=>?_,fun h=>?_⟩ <;> try exact absurd h (by decide)))
 refine stop_nilcmp un22 rfl rfl trivial (fun b hb=>?_)
 simp only [WA,simprocAttr]
 refine hK' _ _ ?_
 clear hK' K'
 cases l with
 | nil =>
  repeat' (first|(with_reducible apply zz1)|((with_reducible apply zz2);rfl;intro K' hK';simp only [WA,simprocAttr];(repeat (constructor;focus (clear hK';intros;simp_all;done)));(try (apply hK';clear hK' K')))|((with_reducible apply zz3);rfl;all_goals (intro h;try exact absurd h (by decide))))
  · simp only [Kret,retL,retOne,oneV,WA,simprocAttr,List.map_nil]
  · simp only [Kret,retL,retOne,oneV,WA,simprocAttr,List.map_nil]
 | cons x l =>
  have hb:=hb (by simp)
  subst hb
  have hm1 : (l.length + 1) * 16 ≤ 140737488355328:=by simpa using hl
  have hm2 : l.length + 1 ≤ maxLen:=by unfold maxLen;omega
  have hfit : ∀ d ∈ (x :: l).map sD,D.fits 1 d:=by
   intro d hd
   obtain ⟨y, -,rfl⟩:=List.mem_map.1 hd
   exact ⟨rfl,trivial⟩
  simp only [List.map_cons] at hfit
  repeat' (first|(with_reducible apply zz1)|((with_reducible apply zz2);rfl;intro K' hK';simp only [WA,simprocAttr,List.length_map,hm1,hm2];(repeat (constructor;focus (clear hK';intros;simp_all;done)));(try (apply hK';clear hK' K')))|((with_reducible apply zz3);rfl;all_goals (intro h;try exact absurd h (by decide))))
  refine ⟨hfit,?_⟩
  refine hK' _ _ ?_
  clear hK' K'
  repeat' (first|(with_reducible apply zz1)|((with_reducible apply zz2);rfl;intro K' hK';simp only [WA,simprocAttr];(repeat (constructor;focus (clear hK';intros;simp_all;done)));(try (apply hK';clear hK' K')))|((with_reducible apply zz3);rfl;all_goals (intro h;try exact absurd h (by decide))))
  simp only [Kret,retL,retOne,oneV,WA,simprocAttr,List.map_cons]

end Go.Proofs.YtdcplkefmpjppaaGreatDoor.GG
/- Of a sorted list each text once: no two are the same; of what has other names there are no more: plain. -/
namespace Go.Proofs.YtdcplkefmpjppaaGreatDoor.GG
open Go.RowKit Go.Sw

theorem compact_nodup (ss : List (List UInt8)) (h : ss.Pairwise (· ≤ ·)) : (Lib.compact ss).Nodup:=by
 unfold Lib.compact Lib.compactUpTo List.Nodup
 rw [List.pairwise_map]
 have h1 : ((List.range ss.length).filter (Lib.keeps ss.toArray)).Pairwise (· < ·):=List.Pairwise.filter _ List.pairwise_lt_range
 refine List.Pairwise.imp_of_mem ?_ h1
 intro i j hi hj hlt he
 have hj2:=(List.mem_filter.1 hj).2
 have hjl:=List.mem_range.1 (List.mem_filter.1 hj).1
 have hk : ss.toArray[j]! ≠ ss.toArray[j - 1]! := by
  intro hq
  unfold Lib.keeps at hj2
  simp [hq] at hj2
  omega
 have hp:=List.pairwise_iff_getElem.1 h
 have e1 : ss.toArray[i]! = ss[i]:=by simp [show i < ss.length by omega]
 have e2 : ss.toArray[j]! = ss[j]:=by simp [hjl]
 have e3 : ss.toArray[j - 1]! = ss[j - 1]:=by simp [show j - 1 < ss.length by omega]
 rw [e1,e2] at he
 rw [e2,e3] at hk
 have g1 : ss[j - 1] ≤ ss[j]:=hp (j - 1) j (by omega) hjl (by omega)
 have g2 : ss[j] ≤ ss[j - 1]:=by
  rw [← he]
  by_cases hij : i = j - 1
  · subst hij;exact List.le_refl _
  · exact hp i (j - 1) (by omega) (by omega) (by omega)
 exact hk (List.le_antisymm g2 g1)
theorem sort_sorted (ss : List (List UInt8)) : (ss.mergeSort fun x y=>decide (x ≤ y)).Pairwise (· ≤ ·):=by
 have:=List.pairwise_mergeSort (le:=fun x y : List UInt8=>decide (x ≤ y)) (fun a b c h1 h2=>by simp at h1 h2 ⊢;exact List.le_trans h1 h2) (fun a b=>by simp;exact List.le_total a b) ss
 exact this.imp (fun h=>by simpa using h)
theorem compS_nodup (L : List ByteArray) : (compS (sortS L)).Nodup:=by
 unfold compS sortS
 rw [bytes_pack]
 unfold packL List.Nodup
 rw [List.pairwise_map]
 exact (compact_nodup _ (sort_sorted _)).imp fun hne he=>hne (by
  have:=congrArg (fun b : ByteArray=>b.data.toList) he
  simpa using this)
end Go.Proofs.YtdcplkefmpjppaaGreatDoor.GG
