/- slices.Sort, slices.Compact and slices.Clone of texts, on a row that is the caller's own; of a sorted row it leaves each text once. -/
-- TYPESA
import Derived.Test.YtgecnlcbdbaneaaDoorHQ5
import Derived.Test.YtgecnlcbdbaneaaDoorU1
import Derived.Test.YtgecnlcbdbaneaaDoorSwC
import Derived.Test.YtgecnlcbdbaneaaDoorShelfQ
set_option linter.unusedVariables false
set_option linter.unusedSimpArgs false
namespace Go.Proofs.YtgecnlcbdbaneaaDoor
open Go.RowKit Go.Sw Go.Sort
open _root_.List renaming map_cons → za, flatMap_cons → zb, cons_append → ze, nil_append → zf, getElem?_take_of_lt → zh, getElem?_eq_none → zm
open _root_.Array renaming getElem?_toList → zi, getElem?_modify → zn, getElem?_append_left → zo

theorem xo8 {w : World} {M : Nat → Prop} : ∀ {L : List ByteArray} {us : List Value},RpD w M (.ds ((L.map sD).flatMap D.cells) us) → us = L.map .string
 | [],_,h=>by cases h;rfl
 | s :: L,us,h=>by
  simp only [za,zb,D.cells,ze,zf] at h
  cases h with
  | dsc h1 h2=>cases h1;rw [xo8 h2];rfl
theorem vm8 {w : World} {M : Nat → Prop} : ∀ (L : List ByteArray),RpD w M (.ds ((L.map sD).flatMap D.cells) (L.map .string))
 | []=>.dsn
 | s :: L=>by
  simp only [za,zb,D.cells,ze,zf]
  exact .dsc (.v _ rfl) (vm8 L)
theorem xe9 (off : Nat) (d : Array (List UInt8)) (c : Array Value) (k : Nat) : (putCells encStr off d c)[k]? = (c[k]?).map fun x=>if off ≤ k ∧ k < off + d.size then encStr d[k - off]! else x:=by
 unfold putCells
 rw [Array.getElem?_mapIdx]
theorem vd0 (off : Nat) (d : Array (List UInt8)) (c : Array Value) : (putCells encStr off d c).size = c.size:=by
 unfold putCells;simp
theorem va0 (d : Array (List UInt8)) (c : Array Value) (m : Nat) (hm : m ≤ d.size) (hc : d.size ≤ c.size) : (putCells encStr 0 d c).toList.take m = (qq5 (d.toList.take m)).map .string:=by
 apply List.ext_getElem?
 intro i
 by_cases hi : i < m
 · rw [zh hi,zi,xe9]
   have h1 : i < c.size:=by omega
   have h2 : i < d.size:=by omega
   simp [qq5,hi,h1,h2]
 · rw [zm (by simp;omega),zm (by simp [qq5];omega)]
theorem xg0 (d : Array (List UInt8)) (w : World) (g e : Nat) (cur : Array Value) (fr : Nat × Nat) (h : w.heap[g]? = some (.cells cur e fr)) : (putRow encStr w g 0 d).heap[g]? = some (.cells (putCells encStr 0 d cur) e fr):=by
 unfold putRow mapBlock
 simp only
 rw [zn,h]
 simp [onCells]
theorem vq6 (d : Array (List UInt8)) (w : World) (g b : Nat) (h : b ≠ g) : (putRow encStr w g 0 d).heap[b]? = w.heap[b]? := by
 unfold putRow mapBlock
 simp only
 rw [zn,if_neg (fun q=>h q.symm)]
theorem yx6 {F : Nat → Prop} {β : Nat → Value} {s : St} {w : World} {i : Nat} {L : List ByteArray} (hne : L ≠ []) (hW : WR F β s w) (hl : lk i s = some (.row 1 (L.map sD))) :
 ∃ g cap e cur, β i = .slice (some ⟨g,0,none⟩) L.length cap ∧ w.heap[g]? = some (.cells cur e (0,0)) ∧ L.length ≤ cap ∧ cap ≤ maxLen ∧ cur.size = cap ∧ cur.toList.take L.length = L.map .string ∧ Holds encStr w g 0 (qf1 L).toArray:=by
 obtain ⟨-, -,e,xs,⟨hxl,hv⟩,hds, -⟩:=hW.boxes i _ hl
 have hxs:=xo8 hds
 rcases hv with ⟨-,h0⟩ | ⟨g,cap,cur,h1, -,h2,h3,h4,h5,h6⟩
 · simp at h0;exact absurd h0 hne
 · simp only [List.length_map,Nat.mul_one] at h1 h3 h5 h6
   rw [hxs] at h6
   refine ⟨g,cap,e,cur,h1,h2,h3,h4,h5,h6,fun j hj=>?_⟩
   have hjl : j < L.length:=by simpa [qf1] using hj
   have hcj : cur[j]? = some (.string L[j]):=by
    have : (cur.toList.take L.length)[j]? = (L.map Value.string)[j]? := by rw [h6]
    rw [zh hjl,zi] at this
    rw [this];simp [hjl]
   refine ⟨?_,?_⟩
   · rw [Nat.zero_add]
     simp only [World.cell?,h2]
     simp [hcj,qf1,hjl]
   · simp [World.frozen?,h2]
theorem xz9 {F : Nat → Prop} {β : Nat → Value} {s : St} {w : World} {i k : Nat} (hW : WR F β s w) (hl : lk i s = some (.row k [])) : ∃ a c, β i = .slice a 0 c:=by
 obtain ⟨-, -,e,xs,⟨hxl,hv⟩, -, -⟩:=hW.boxes i _ hl
 rcases hv with ⟨h, -⟩ | ⟨g,cap,cur,h, -⟩
 · exact ⟨_,_,h⟩
 · exact ⟨_,_,h⟩
theorem yf6 {w : World} {F : Nat → Prop} {β : Nat → Value} {s : St} {i : Nat} {us : List Value} (hu : Rp w F β s (.ss [.own i] us)) : us = [β i]:=by
 cases hu with
 | ssc h1 h2=>cases h2;cases h1;rfl
theorem vq8 (L : List ByteArray) : ∀ x ∈ L.map sD,x.cells.length = 1:=fun x hx=>by
 obtain ⟨s, -,rfl⟩:=List.mem_map.1 hx;rfl
theorem xf5 (L : List ByteArray) : ∀ u ∈ L.map Value.string,u.oneCell' = true:=fun u hu=>by
 obtain ⟨s, -,rfl⟩:=List.mem_map.1 hu;rfl
theorem yf5 {i : Nat} {bx : Box} : ∀ {s : St},lk i s = some bx → ∀ j,lk j (put i bx s) = lk j s:=fun {s} h j=>by
 by_cases hj : j = i
 · subst hj;rw [qb3,h]
 · rw [qb0 _ hj]

theorem yg3 : qm2 [] = []:=by simp [qm2,qq5,qf1]
theorem yg8 : qo3 [] = []:=by simp [qo3,qq5,qf1,Lib.compact,Lib.compactUpTo]
theorem xt1 {N : Nat} {Γ : Gl} {C : Cx Tryd.prog N Γ} {β : Nat → Value} {e : Env} {s : St} {a : Act} {w : World} (inv : qd1 C β e s a w) {i : Nat} {L : List ByteArray} (hs : lk i s = some (.row 1 (L.map sD))) (hl : L.length ≤ 1099511627776) :
 Calls Tryd.prog 96 #[β i] w fun en w'=>en = .returned (.tuple #[]) ∧ qd1 C β e (put i (.row 1 ((qm2 L).map sD)) s) a w':=by
 by_cases hne : L = []
 · subst hne
   obtain ⟨a1,c1,hβ⟩:=xz9 inv.wr hs
   rw [hβ]
   refine (Tryd.slices_Sort_string_none a1 c1 w).mono ?_
   rintro en w' ⟨rfl,rfl⟩
   refine ⟨rfl,inv.same ?_⟩
   rw [yg3];exact yf5 hs
 obtain ⟨g,cap,el,cur,hβ,hg,hle,hcap,hsize,htake,hH⟩:=yx6 hne inv.wr hs
 have hbl : (qf1 L).length = L.length:=by simp [qf1]
 have hlt : g < w.heap.size:=(Array.getElem?_eq_some_iff.1 hg).1
 rw [hβ]
 have hcall:=Tryd.slices_Sort_string g 0 cap (qf1 L) w hH hlt (by omega)
 rw [hbl] at hcall
 refine hcall.mono ?_
 rintro en w' ⟨rfl,n,os,rfl⟩
 have hoff : ∀ b,b < w.heap.size → b ≠ g → (Go.Sort.grow (putRow encStr (Sort.ahead w n) g 0 ((qf1 L).mergeSort fun x y=>decide (x ≤ y)).toArray) os).heap[b]? = w.heap[b]? := fun b hb hbg=>by
  simp only [Go.Sort.grow]
  rw [zo (by simpa using hb)]
  exact vq6 _ _ g b hbg
 have hat : (Go.Sort.grow (putRow encStr (Sort.ahead w n) g 0 ((qf1 L).mergeSort fun x y=>decide (x ≤ y)).toArray) os).heap[g]? = some (.cells (putCells encStr 0 ((qf1 L).mergeSort fun x y=>decide (x ≤ y)).toArray cur) el (0,0)):=by
  simp only [Go.Sort.grow]
  rw [zo (by simpa using hlt)]
  exact xg0 _ _ g el cur _ hg
 have htk : (putCells encStr 0 ((qf1 L).mergeSort fun x y=>decide (x ≤ y)).toArray cur).toList.take L.length = (qm2 L).map .string:=by
  rw [va0 _ _ _ (by simp [qf1]) (by simp [qf1];omega)]
  rw [List.take_of_length_le (by simp [qf1])]
  rfl
 exact ⟨rfl,xr4 inv (w':=Go.Sort.grow (putRow encStr (Sort.ahead w n) g 0 ((qf1 L).mergeSort fun x y=>decide (x ≤ y)).toArray) os) (L':=(qm2 L).map sD) (xs:=(qm2 L).map .string) (el:=el) hs (by simp [qm1]) rfl rfl rfl (by simp [Go.Sort.grow])
  (fun b hb hn=>hoff b hb (fun q=>hn (by rw [hβ,q];rfl))) (by omega) (vq8 _)
  ⟨by simp,.inr ⟨g,cap,_,by rw [hβ];simp [qm1],Nat.zero_le _,hat,by simpa [qm1] using hle,hcap,by rw [vd0,hsize];omega,by simpa [qm1] using htk⟩⟩ (vm8 _) (xf5 _)⟩
theorem yu8 : xx5 Tryd.prog 96 = true:=by kernel_rfl
theorem xb7 {N : Nat} {Γ : Gl} {C : Cx Tryd.prog N Γ} {ops rest : List Oper} {e : Env} {s : St} {K : Exit → Env → St → Prop} {dst : Option Tmp} {x : Operand} {ats : Array TypeId} {ty : TypeId} {pos : String} {af : Array Edge} {i : Nat} (L : List ByteArray)
 (hB : qg5 N (⟨dst,.call ⟨.value (.func 96), #[x],ats⟩,ty,pos,af,none⟩ :: rest) = true) (hx : val e x = .own i) (hs : lk i s = some (.row 1 (L.map sD))) (hl : L.length ≤ 1099511627776)
 (h : qo0 C ops rest (qk9 dst (.tup []) e) (put i (.row 1 ((qm2 L).map sD)) s) K) : Stop C ops (⟨dst,.call ⟨.value (.func 96), #[x],ats⟩,ty,pos,af,none⟩ :: rest) e s K:=by
 intro β a w inv
 simp only [qg5,List.all_cons,Bool.and_eq_true,ve9] at hB
 obtain ⟨⟨hdst,ho⟩,hB'⟩:=hB
 have hao : qc8 x = true:=by
  simp [Op.operands,Call.operands] at ho
  exact ho.2
 have ih:=qh3 (ops:=ops) hB' h
 refine wpList_plain rfl fun K' hK'=>?_
 unfold Oper.wp
 rw [qp0 yu8]
 have hr:=qk5 inv [x] (by simp [hao]) (by simp [vals,hx,oks,ok1])
 have hxv : opn (val e x) = .own i:=by rw [hx];rfl
 simp only [vals,qm6,hxv] at hr
 have he : [x].map a.eval = [β i]:=yf6 hr
 have he2 : (#[x].toList.map a.eval).toArray = #[β i]:=by rw [show #[x].toList.map a.eval = [β i] from he]
 rw [he2]
 refine (xt1 inv hs hl).mono ?_
 rintro en w' ⟨rfl,i2⟩
 exact hK' _ _ (ih β _ _ (i2.put dst hdst (.tup .ssn)))
theorem yo5 (Γ : Gl) (L : List ByteArray) (hl : L.length ≤ 1099511627776) : SFn Tryd.prog Γ 97 [.own 0] [(0,.row 1 (L.map sD))] (.own 0) [(0,.row 1 ((qo3 L).map sD))]:=by
 have hs : lk 0 [(0,Box.row 1 (L.map sD))] = some (.row 1 (L.map sD)):=rfl
 refine xv8 (by kernel_rfl) fun C β a w us hC inv hu=>?_
 obtain rfl:=yf6 hu
 have hcS : (qo3 L).length = (Lib.compact (qf1 L)).length:=by simp [qo3,qq5]
 by_cases hne : L = []
 · subst hne
   obtain ⟨a1,c1,hβ⟩:=xz9 inv.wr hs
   have hr : Rp w C.F β [(0,Box.row 1 (([] : List ByteArray).map sD))] (.s (.own 0) (β 0)):=Rp.own hs
   rw [hβ] at hr ⊢
   refine (Tryd.slices_Compact_string_empty a1 c1 w).mono ?_
   rintro en w' ⟨rfl,rfl⟩
   rw [yg8]
   exact ⟨_, β,_,rfl,inv,hr⟩
 obtain ⟨g,cap,e,cur,hβ,hg,hle,hcap,hsize,htake,hH⟩:=yx6 hne inv.wr hs
 have hbl : (qf1 L).length = L.length:=by simp [qf1]
 have hlt : g < w.heap.size:=(Array.getElem?_eq_some_iff.1 hg).1
 rw [hβ]
 have hcall:=Tryd.slices_Compact_string g 0 cap (qf1 L) w hH (by omega) (by omega)
 rw [hbl] at hcall
 refine hcall.mono ?_
 rintro en w' ⟨rfl,n,rfl⟩
 have hcl:=vj5 (qf1 L)
 generalize hd : (Lib.compact (qf1 L) ++ List.replicate (L.length - (Lib.compact (qf1 L)).length) []).toArray = d
 have hdl : d.size = L.length:=by rw [← hd];simp;omega
 have htk : (putCells encStr 0 d cur).toList.take (qo3 L).length = (qo3 L).map .string:=by
  rw [hcS,va0 _ _ _ (by omega) (by omega), ← hd]
  rw [List.toList_toArray,List.take_left']
  · rfl
  · rfl
 have i2:=inv.rowset (w':=putRow encStr (Sort.ahead w n) g 0 d) (L':=(qo3 L).map sD) (xs:=(qo3 L).map .string) (el:=e) (v':=.slice (some ⟨g,0,none⟩) (qo3 L).length cap) (b':=g) hs rfl (.inl (by rw [hβ];rfl)) rfl rfl rfl (by simp)
  (fun b hb hn=>vq6 _ _ g b (fun q=>hn (by rw [hβ,q];rfl))) (by omega) (vq8 _)
  ⟨by simp,.inr ⟨g,cap,_,by simp,Nat.zero_le _,xg0 _ _ g e cur _ hg,by simp;omega,hcap,by rw [vd0,hsize];omega,by simpa using htk⟩⟩ (vm8 _) (xf5 _)
 refine ⟨_,_,_,by rw [← hcS],i2,?_⟩
 have:=Rp.own (w:=putRow encStr (Sort.ahead w n) g 0 d) (F:=C.F) (β := qz0 β 0 (.slice (some ⟨g,0,none⟩) (qo3 L).length cap)) (s:=[(0,Box.row 1 ((qo3 L).map sD))]) (i:=0) rfl
 rwa [qb2] at this
end Go.Proofs.YtgecnlcbdbaneaaDoor
