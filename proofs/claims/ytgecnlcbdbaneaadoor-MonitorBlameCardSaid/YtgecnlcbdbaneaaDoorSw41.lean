/- A symbolic walk: a slice's literal of one struct, as a box of cells; later it is a row of one's own. -/
import Derived.Test.YtgecnlcbdbaneaaDoorSwD
import Derived.Laws.Pointers
set_option linter.unusedVariables false
set_option linter.unusedSimpArgs false
namespace Go.Sw
open Go.RowKit
section
variable {P : Program} {N : Nat} {Γ : Gl} {C : Cx P N Γ} {K : Exit → Env → St → Prop} {e : Env} {s : St}
theorem inv_rowsetB {β : Nat → Value} {a : Act} {w w' : World} (inv : InvB C β e s a w) {i k : Nat} {L' : List D} {bx0 : Box} {v' : Value} (hl : lk i s = some bx0) {b' : Nat} (hb' : blk v' = some b') (hbb : blk (β i) = some b' ∨ w.heap.size ≤ b')
 (hos : w'.os = w.os) (htape : w'.tape = w.tape) (hout : w'.output = w.output) (hsize : w.heap.size ≤ w'.heap.size) (hheap : ∀ b,b < w.heap.size → blk (β i) ≠ some b → w'.heap[b]? = w.heap[b]?)
 (hk0 : 0 < k) (hk : ∀ x ∈ L',x.cells.length = k) {el : TypeId} {xs : List Value} (hown : w'.ownsRow 0 el k v' L'.length xs) (hxs : RpD w (Mut C.F β s) (.ds (L'.flatMap D.cells) xs)) (hone : ∀ u ∈ xs,u.oneCell' = true) :
 InvB C (bset β i v') (jkE (Nat.beq i) e) (put i (.row k L') (jkS (Nat.beq i) s)) a w':=by
 have get : ∀ j bx,j ≠ i → lk j (put i (.row k L') (jkS (Nat.beq i) s)) = some bx → ∃ b,lk j s = some b ∧ bx = b.jk (Nat.beq i):=fun j bx hj h=>by
  rw [lk_put_ne _ hj,lk_jkS] at h
  cases hl : lk j s with
  | none=>rw [hl] at h; cases h
  | some b=>rw [hl] at h; exact ⟨b,rfl,by simpa using h.symm⟩
 have hnew : ∀ j bx b,j ≠ i → lk j s = some bx → blk (β j) = some b → b ≠ b':=fun j bx b hj h1 h2 he=>by
  subst he
  rcases hbb with h | h
  · exact hj (inv.wr.inj j i bx _ b h1 hl h2 h)
  · have:=(inv.wr.boxes j bx h1).blk_lt h2; omega
 have hx : Ext (Nat.beq i) C.F w β s w' (bset β i v') (put i (.row k L') (jkS (Nat.beq i) s)):=by
  refine ⟨fun b hb hm=>hheap b hb (fun h=>hm (.inr ⟨i,_,hl,h⟩)),fun b hb hm=>?_,fun j cs hX h=>?_,fun j k2 L2 hX h=>?_,fun j M hX h=>?_⟩
  · rcases hm with hm | ⟨j,bx,h1,h2⟩
    · exact .inl hm
    · by_cases hj : j = i
      · subst hj
        rw [bset_same,hb'] at h2
        cases h2
        rcases hbb with h | h
        · exact .inr ⟨j,_,hl,h⟩
        · omega
      · obtain ⟨b2,g1, -⟩:=get j bx hj h1
        rw [bset_ne hj] at h2
        exact .inr ⟨j,b2,g1,h2⟩
  · have hj : j ≠ i:=fun h=>by subst h; simp at hX
    exact ⟨bset_ne hj,SV.jks (Nat.beq i) cs,by rw [lk_put_ne _ hj,lk_jkS,h]; rfl⟩
  · have hj : j ≠ i:=fun h=>by subst h; simp at hX
    exact ⟨bset_ne hj,L2,by rw [lk_put_ne _ hj,lk_jkS,h]; rfl,Nat.le_refl _⟩
  · have hj : j ≠ i:=fun h=>by subst h; simp at hX
    exact ⟨bset_ne hj,M,by rw [lk_put_ne _ hj,lk_jkS,h]; rfl⟩
 refine inv.step hx ⟨fun j bx h=>?_,fun j1 j2 b1 b2 b h1 h2 h3 h4=>?_,fun j bx b h h2=>?_,fun b h=>Nat.lt_of_lt_of_le (inv.wr.low b h) hsize⟩ ⟨hos.trans inv.since.os,htape.trans inv.since.tape,hout.trans inv.since.output,Nat.le_trans inv.since.size hsize,fun b hb h=>?_,fun j bx b h h2=>?_,fun j c1 c2 h h2=>?_,fun j bx h=>?_⟩ hsize (fun b hb=>hheap b (Nat.lt_of_lt_of_le hb inv.big) (fun h=>by have:=inv.base i _ b hl h; omega)) (fun j bx b h h2=>?_)
 · by_cases hj : j = i
   · subst hj
     rw [lk_put_same] at h
     cases h
     exact ⟨hk0,hk,el,xs,by rw [bset_same]; exact hown,hxs.keep hx.heap hx.mutb,hone⟩
   · obtain ⟨b2,g1,rfl⟩:=get j bx hj h
     have hb:=inv.wr.boxes j b2 g1
     have hsame : ∀ b,blk (β j) = some b → w'.heap[b]? = w.heap[b]? := fun b hb2=>hheap b (hb.blk_lt hb2) (fun he=>hj (inv.wr.inj j i _ _ b g1 hl hb2 he))
     cases b2 with
     | cells cs =>
      obtain ⟨bb,t,us,h1,h2,h3,h4⟩:=hb
      exact ⟨bb,t,us,by rw [bset_ne hj]; exact h1,by rw [hsame bb (by rw [h1]; rfl)]; exact h2,Rp.keep hx h3,h4⟩
     | row k2 L2 =>
      obtain ⟨g0,hk2,el2,xs2,q1,q2,q3⟩:=hb
      refine ⟨g0,hk2,el2,xs2,?_,q2.keep hx.heap hx.mutb,q3⟩
      rw [bset_ne hj]
      refine ⟨q1.1,?_⟩
      rcases q1.2 with h | ⟨gg,cap,cur,e1,e2,e3,e4⟩
      · exact .inl h
      · exact .inr ⟨gg,cap,cur,e1,e2,by rw [hsame gg (by rw [e1]; rfl)]; exact e3,e4⟩
     | mp M =>
      obtain ⟨bb,h1,h2⟩:=hb
      exact ⟨bb,by rw [bset_ne hj]; exact h1,by rw [hsame bb (by rw [h1]; rfl)]; exact h2⟩
 · by_cases hj1 : j1 = i
   · by_cases hj2 : j2 = i
     · omega
     · subst hj1
       rw [bset_same,hb'] at h3
       cases h3
       obtain ⟨c2,g2, -⟩:=get j2 b2 hj2 h2
       rw [bset_ne hj2] at h4
       exact absurd rfl (hnew j2 c2 b' hj2 g2 h4)
   · obtain ⟨c1,g1, -⟩:=get j1 b1 hj1 h1
     rw [bset_ne hj1] at h3
     by_cases hj2 : j2 = i
     · subst hj2
       rw [bset_same,hb'] at h4
       cases h4
       exact absurd rfl (hnew j1 c1 b' hj1 g1 h3)
     · obtain ⟨c2,g2, -⟩:=get j2 b2 hj2 h2
       rw [bset_ne hj2] at h4
       exact inv.wr.inj j1 j2 c1 c2 b g1 g2 h3 h4
 · by_cases hj : j = i
   · subst hj
     rw [bset_same,hb'] at h2
     cases h2
     rcases hbb with hq | hq
     · exact inv.wr.apart j _ b' hl hq
     · intro hF; have:=inv.wr.low b' hF; omega
   · obtain ⟨c,g1, -⟩:=get j bx hj h
     rw [bset_ne hj] at h2
     exact inv.wr.apart j c b g1 h2
 · rw [hheap b (Nat.lt_of_lt_of_le hb inv.since.size) (fun he=>?_)]
   · exact inv.since.heap b hb h
   · rcases inv.since.boxes i _ b hl he with h2 | ⟨j,bj,h2,h3⟩
     · omega
     · exact h j bj h2 h3
 · by_cases hj : j = i
   · subst hj
     rw [bset_same,hb'] at h2
     cases h2
     rcases hbb with hq | hq
     · exact inv.since.boxes j _ b' hl hq
     · exact .inl (Nat.le_trans inv.since.size hq)
   · obtain ⟨c,g1, -⟩:=get j bx hj h
     rw [bset_ne hj] at h2
     exact inv.since.boxes j c b g1 h2
 · by_cases hj : j = i
   · subst hj; rw [lk_put_same] at h2; cases h2
   · obtain ⟨c,g1,g2⟩:=get j _ hj h2
     rw [bset_ne hj]
     cases c with
     | cells cs=>exact inv.since.cells j c1 cs h g1
     | row=>cases g2
     | mp=>cases g2
 · by_cases hj : j = i
   · subst hj; rw [lk_put_same]; simp
   · rw [lk_put_ne _ hj,lk_jkS]
     have:=inv.since.keep j bx h
     cases hlj : lk j s with
     | none=>exact absurd hlj this
     | some b=>simp
 · by_cases hj : j = i
   · subst hj
     rw [bset_same,hb'] at h2
     cases h2
     rcases hbb with hq | hq
     · exact inv.base j _ b' hl hq
     · exact Nat.le_trans inv.big hq
   · obtain ⟨c,g1, -⟩:=get j bx hj h
     rw [bset_ne hj] at h2
     exact inv.base j c b g1 h2

theorem ss_ds2 {w : World} {F : Nat → Prop} {β : Nat → Value} {s : St} : ∀ {ds : List D} {us : List Value},Rp w F β s (.ss (ds.map .d) us) → RpD w (Mut F β s) (.ds ds us)
 | [],_,.ssn=>.dsn
 | d :: ds,_,.ssc h ht=>by
  cases h with
  | d h=>exact .dsc h (ss_ds2 ht)
theorem swp_rowS {x : Code} (i t0 : Nat) {ds : List D} {k : Nat} (hl : lk i s = some (.cells (ds.map .d))) (ht : lk t0 e = some (.sref i 1)) (hk : ds.length = k) (hk0 : 0 < k)
 (h : Swp C x K (put t0 (.own i) (jkE (Nat.beq i) e)) (put i (.row k [.agg ds]) (jkS (Nat.beq i) s))) : Swp C x K e s:=fun β a w inv=>by
 obtain ⟨hN,hr⟩:=inv.env t0 _ ht
 obtain ⟨b,t,us,q1,q2,q3,q4⟩:=inv.wr.boxes i _ hl
 have hul:=q3.ss_len
 rw [List.length_map,hk,Array.length_toList] at hul
 generalize hv : a.tmps.getD t0 undef = v at hr
 cases hr with
 | @sref _ _ b' cs h1 h2 =>
  rw [q1] at h2
  obtain rfl : b = b':=by simpa using h2
  have inv2:=inv_rowsetB inv (w':=w) (i:=i) (k:=k) (L':=[.agg ds]) (v':=.slice (some ⟨b,0,none⟩) 1 1) hl (b':=b) rfl (.inl (by rw [q1]; rfl)) rfl rfl rfl (Nat.le_refl _) (fun _ _ _=>rfl) hk0
   (fun x hx=>by rw [List.mem_singleton] at hx; subst hx; exact hk) (el:=t) (xs:=us.toList)
   ⟨by rw [Array.length_toList,hul]; simp,.inr ⟨b,1,us,rfl,Nat.zero_le _,q2,Nat.le_refl _,by simp [maxLen],by omega,by rw [List.length_singleton,List.take_of_length_le (by rw [Array.length_toList]; omega)]⟩⟩
   (by simpa [D.cells] using ss_ds2 q3) q4
  refine h (bset β i (.slice (some ⟨b,0,none⟩) 1 1)) a w { inv2 with env:=fun t x hx=>?_ }
  by_cases he : t = t0
  · subst he
    rw [lk_put_same] at hx
    cases hx
    refine ⟨hN,?_⟩
    rw [hv]
    have:=Rp.own (w:=w) (F:=C.F) (β := bset β i (.slice (some ⟨b,0,none⟩) 1 1)) (i:=i) (k:=k) (L:=[.agg ds]) (s:=put i (.row k [.agg ds]) (jkS (Nat.beq i) s)) (lk_put_same i _ _)
    rwa [bset_same] at this
  · rw [lk_put_ne _ he] at hx
    exact inv2.env t x hx
theorem aop_bsl1 {J : Env → St → Prop} {dst : Option Tmp} {t el : TypeId} {x : Operand} {ty : TypeId} {pos : String} {af : Array Edge} {i : TypeInfo} {z : Value} {nm : Nat} {cs : List SV}
 (hd : dst.all (fun d=>decide (d < N)) = true) (hxo : opdOK x = true) (hu : P.underlying t = some (.slice el)) (hi : P.info? el = some i) (hz : i.zero = some z) (hs : i.size = cs.length) (hsm : cs.length ≤ 16777216)
 (hx : (val e x).cells = cs) (hsc : scs cs) (hnm : nx s = nm)
 (hJ : J (putO dst (.sref nm 1) e) ((nm,.cells cs) :: s)) : Aop C ⟨dst,.buildSlice t 1 #[(0,x)],ty,pos,af,none⟩ e s J K:=fun β a w inv K' hK'=>by
 subst hnm
 subst hx
 have hr:=val_rp inv x hxo
 have hc:=cells_rp inv hr hsc
 have hone:=scs_one inv hc hsc
 have hul:=hc.ss_len
 rw [Array.length_toList] at hul
 have hfold:=arr_fold (0 * (val e x).cells.length) (a.eval x).cells ((Array.range (1 * (val e x).cells.length)).map (z.cells[· % z.cells.size]!)) (by simp; omega)
 have hfill : Instr.fill (fun j=>some (j * i.size,i.size)) ((Array.range (1 * i.size)).map (z.cells[· % z.cells.size]!)) [(0,a.eval x)] = some ((a.eval x).cells.zipIdx.foldl (fun (cs : Array Value) (cj : Value × Nat)=>cs.setIfInBounds (0 * (val e x).cells.length + cj.2) cj.1) ((Array.range (1 * (val e x).cells.length)).map (z.cells[· % z.cells.size]!))):=by
  rw [hs]
  simp only [Instr.fill]
  rw [if_neg (by simp; omega)]
 generalize hcl : (a.eval x).cells.zipIdx.foldl (fun (cs : Array Value) (cj : Value × Nat)=>cs.setIfInBounds (0 * (val e x).cells.length + cj.2) cj.1) ((Array.range (1 * (val e x).cells.length)).map (z.cells[· % z.cells.size]!)) = cells' at hfold hfill
 have hcells : cells'.toList = (a.eval x).cells.toList:=by
  rw [hfold]
  simp only [upd,Nat.zero_mul,List.take_zero,List.nil_append,Nat.zero_add]
  rw [List.drop_of_length_le (by simp; omega),List.append_nil]
 have hrun:=run_bsl0 (P:=P) w t el 1 #[(0,a.eval x)] cells' i z hu hi hz (by omega) hfill
 have hv : ∀ b,blk (.pointer (some ⟨w.heap.size,0,none⟩)) = some b → b = w.heap.size:=fun b hb=>by simpa [blk] using hb.symm
 have hnone : lk (nx s) s = none:=by
  cases hl : lk (nx s) s with
  | none=>rfl
  | some b=>have:=le_nx hl; omega
 have inv2:=inv.new (.cells cells' el) (.pointer (some ⟨w.heap.size,0,none⟩)) (.cells (val e x).cells) hv hnone (by
  refine ⟨w.heap.size,el,cells',bset_same _ _ _,heap_alloc_new w _,?_,fun u hu=>?_⟩
  · rw [hcells]; exact Rp.keep0s (ext_alloc inv _ _ _ hv hnone) hc
  · rw [hcells] at hu; exact hone u hu)
 have hown:=Rp.sref (w:=w.alloc (.cells cells' el)) (F:=C.F) (n:=1) (lk_cons_same (nx s) (Box.cells (val e x).cells) s) (bset_same β (nx s) (.pointer (some ⟨w.heap.size,0,none⟩)))
 unfold Oper.wp execOp
 simp only [List.map_toArray,List.map_cons,List.map_nil,Sem.run_bind,hrun,Result.andThen_ok,Sem.run_pure]
 exact hK' _ _ _ _ _ (inv2.put dst hd hown) hJ
theorem stop_idx0 {ops rest : List Oper} {dst : Option Tmp} {t : TypeId} {x : Operand} {ty : TypeId} {pos : String} {af : Array Edge} {i n k : Nat}
 (hB : regOK N (⟨dst,.indexAddr t x (.const (.int .i64 0)),ty,pos,af,none⟩ :: rest) = true) (hk : elemSz P t = some k) (hx : val e x = .sref i n) (hn : 0 < n)
 (h : Stop C ops rest (putO dst (.ref i 0) e) s K) : Stop C ops (⟨dst,.indexAddr t x (.const (.int .i64 0)),ty,pos,af,none⟩ :: rest) e s K:=by
 intro β a w inv
 simp only [regOK,List.all_cons,Bool.and_eq_true,opOK] at hB
 obtain ⟨⟨hdst,ho⟩,hB'⟩:=hB
 have ho' : opdOK x = true:=by
  have h2:=ho
  simp [Op.operands] at h2
  first | exact h2.1 | exact h2
 have ih:=h
 refine wpList_plain rfl fun K' hK'=>?_
 unfold Oper.wp
 have hr:=val_rp inv x ho'
 rw [hx] at hr
 generalize hy : a.eval x = y at hr
 cases hr with
 | @sref _ _ b cs h1 h2 =>
  rw [show (execOp a.eval ⟨dst,.indexAddr t x (.const (.int .i64 0)),ty,pos,af,none⟩).run P w = .ok (.value (.pointer (some ⟨b,0,none⟩))) w by
   have hz : a.eval (.const (.int .i64 0)) = .int .i64 0:=rfl
   simp [execOp,hy,hz,indexAt_run hk b 0 n n .i64 0 (Int.le_refl _) (by omega) w]]
  exact hK' _ _ (ih β _ _ (inv.put dst hdst (.ref h1 h2)))
theorem stop_refnil {ops rest : List Oper} {dst : Option Tmp} {t t2 ty : TypeId} {x : Operand} {pos : String} {af : Array Edge} {i off : Nat} (hu : P.underlying t = some (.pointer (P.pointee t)))
 (hB : regOK N (⟨dst,.binOp .eql t x (.const (.pointer none)) t2,ty,pos,af,none⟩ :: rest) = true) (hx : opn (val e x) = .ref i off) (hk : ok1 true (val e x))
 (h : Stop C ops rest (putO dst (.d (.v (.bool false))) e) s K) : Stop C ops (⟨dst,.binOp .eql t x (.const (.pointer none)) t2,ty,pos,af,none⟩ :: rest) e s K:=by
 intro β a w inv
 simp only [regOK,List.all_cons,Bool.and_eq_true,opOK] at hB
 obtain ⟨⟨hdst,ho⟩,hB'⟩:=hB
 have hox : opdOK x = true:=by simp [Op.operands] at ho; exact ho.1
 have hq:=opn_rp (val_rp inv x hox) hk
 rw [hx] at hq
 obtain ⟨ad,hv⟩ : ∃ ad,a.eval x = .pointer (some ad):=by
  generalize a.eval x = u at hq
  cases hq with
  | ref h1 h2=>exact ⟨_,rfl⟩
 refine wpList_plain rfl fun K' hK'=>?_
 unfold Oper.wp
 have hrun : (execOp a.eval ⟨dst,.binOp .eql t x (.const (.pointer none)) t2,ty,pos,af,none⟩).run P w = .ok (.value (.bool false)) w:=by
  have he : a.eval (.const (.pointer none)) = .pointer none:=rfl
  simp [execOp,hv,he,eqGuard,binOp,run_equal_pointer_nil w t (some ad) hu]
 rw [hrun]
 exact hK' _ _ (h β _ _ (inv.put dst hdst (.d (.v _ rfl))))
end
end Go.Sw
