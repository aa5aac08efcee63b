/- A symbolic walk: functions that defer a closure which recovers. -/
import Derived.Test.YtlnmkdbcdcknjaaDoorSwC
import Derived.Defers
import Derived.Recover
import Derived.Test.YtlnmkdbcdcknjaaDoorSwB
import Derived.MapKept
import Derived.Laws.MakeOwn
import Derived.Laws.Pointers
import Derived.Laws.IdiomStrings
import Derived.Laws.BytesString
set_option linter.unusedVariables false
set_option linter.unusedSimpArgs false
namespace Go.Sw
open Go.RowKit

section
variable {P : Program} {N : Nat} {Γ : Gl}
theorem Since.trans0 {N1 N2 N3 : Nat} {F F2 : Nat → Prop} {β0 β1 β2 : Nat → Value} {w0 w1 w2 : World} {ds ds2 ds3 : List Deferred} {s1 s2 : St} {l1 l3 : ∀ b,F b → Γ.NG ≤ b} {l2 : ∀ b,F2 b → Γ.NG ≤ b} (h1 : Since (⟨F, β0,[],w0,ds,l1⟩ : Cx P N1 Γ) β1 s1 w1) (h2 : Since (⟨F2, β1,s1,w1,ds2,l2⟩ : Cx P N2 Γ) β2 s2 w2) :
 Since (⟨F, β0,[],w0,ds3,l3⟩ : Cx P N3 Γ) β2 s2 w2:=by
 refine ⟨h2.os.trans h1.os,h2.tape.trans h1.tape,h2.output.trans h1.output,Nat.le_trans h1.size h2.size,fun b hb hn=>?_,fun i bx b h hb=>?_,fun i c1 c2 h=>(by cases h),fun i bx h=>(by cases h)⟩
 · refine (h2.heap b (Nat.lt_of_lt_of_le hb h1.size) fun i bx h q=>?_).trans (h1.heap b hb hn)
   rcases h1.boxes i bx b h q with h3 | ⟨j,y,h3,h4⟩
   · exact absurd hb (Nat.not_lt.2 h3)
   · cases h3
 · rcases h2.boxes i bx b h hb with h3 | ⟨j,y,h3,h4⟩
   · exact .inl (Nat.le_trans h1.size h3)
   · rcases h1.boxes j y b h3 h4 with h5 | ⟨k,z,h5, -⟩
     · exact .inl h5
     · cases h5
theorem raw_seq {C : Cx P N Γ} {x y : Code} {e : Env} {s : St} (E : Env) (S : St) (h : Swp C x (fun ex e s=>ex = .normal ∧ Sub C e s E S) e s) {Q : Exit → Act → World → Prop}
 (hy : ∀ β a w,InvB C β E S a w → y.wp P Q a w) : ∀ β a w,InvB C β e s a w → (Code.seq x y).wp P Q a w:=fun β a w inv =>
 wp_seq (wp_mono (h β a w inv) fun ex a w ⟨β,e,s,i,hx,hs⟩=>by
  subst hx
  obtain ⟨β',i'⟩:=hs β a w i
  exact hy β' a w i')
theorem inv_enter {F : Nat → Prop} {w : World} {us : List Value} {args : List D} {n : Nat} (hG : Γ.G w) (hNG : Γ.NG ≤ w.heap.size) (hF : ∀ b,F b → Γ.NG ≤ b ∧ b < w.heap.size) (hargs : RpD w F (.ds args us)) (hn : n = N) (hlen : args.length ≤ N) :
 InvB (⟨F,fun _=>undef,[],w,[],fun b hb=>(hF b hb).1⟩ : Cx P N Γ) (fun _=>undef) (argE 0 args) [] { tmps:=us.toArray ++ Array.replicate (n - us.toArray.size) undef,defers:=[] } w:=by
 have hul:=hargs.ds_len
 refine ⟨⟨fun i bx h=>(by cases h),fun i j b1 b2 b h=>(by cases h),fun i bx b h=>(by cases h),fun b hb=>(hF b hb).2⟩,fun i bx b h=>(by cases h),fun t x hx=>?_,by simp [hul,hn]; omega,rfl,hG,hNG,⟨rfl,rfl,rfl,Nat.le_refl _,fun _ _ _=>rfl,fun i bx b h=>(by cases h),fun i c1 c2 h=>(by cases h),fun i bx h=>(by cases h)⟩⟩
 obtain ⟨j,d,h1,h2,rfl⟩:=lk_argE hx
 have hj : j < args.length:=(List.getElem?_eq_some_iff.1 h2).1
 obtain ⟨u,h3,h4⟩:=RpD.ds_get j hargs h2
 obtain rfl : t = j:=by omega
 refine ⟨by omega,.d ?_⟩
 have hM : Mut F (fun _=>undef) ([] : St) = F:=by
  funext b
  simp only [Mut,eq_iff_iff]
  exact ⟨fun h=>h.resolve_right (fun ⟨i,bx,h,_⟩=>by cases h),.inl⟩
 rw [hM]
 have : (us.toArray ++ Array.replicate (n - us.toArray.size) undef).getD t undef = u:=by
  have ht : t < us.toArray.size:=by simp [hul]; exact hj
  rw [Array.getD_eq_getD_getElem?,Array.getElem?_append_left ht]
  simp [h3]
 rw [this]
 exact h4
def CFn (P : Program) (Γ : Gl) (g : FuncId) (args : List SV) (m : FrameMode) (s : St) (m' : FrameMode) (s' : St) : Prop :=
 ∀ (F : Nat → Prop) (β : Nat → Value) (w : World) (us : List Value), Γ.G w → Γ.NG ≤ w.heap.size → WR F β s w → (hl : ∀ b,F b → Γ.NG ≤ b) → (∀ i bx b,lk i s = some bx → blk (β i) = some b → Γ.NG ≤ b) → Rp w F β s (.ss args us) →
   CallsD P g us.toArray m w fun e u' w' => ∃ v β',e = .returned v ∧ u' = m' ∧ WR F β' s' w' ∧ Since (⟨F, β,s,w,[],hl⟩ : Cx P 0 Γ) β' s' w' ∧ Γ.G w' ∧ ∀ i bx b,lk i s' = some bx → blk (β' i) = some b → Γ.NG ≤ b
def refsAt (s : St) : List SV → Prop
 | []=>True
 | .ref i _ :: l=>(∃ cs,lk i s = some (.cells cs)) ∧ refsAt s l
 | _ :: _=>False
theorem refs_later {w0 w : World} {F F0 : Nat → Prop} {β0 β : Nat → Value} {s0 s : St} (hc : ∀ i cs cs',lk i s0 = some (.cells cs) → lk i s = some (.cells cs') → β i = β0 i) :
 ∀ {l : List SV} {us : List Value},Rp w0 F0 β0 s0 (.ss l us) → refsAt s l → Rp w F β s (.ss l us)
 | [],_,h,_=>by cases h; exact .ssn
 | x :: l,_,h,hr=>by
  cases h with
  | ssc hx hl =>
   cases x with
   | ref i o =>
    obtain ⟨⟨cs,h1⟩,h2⟩:=hr
    refine .ssc ?_ (refs_later hc hl h2)
    cases hx with
    | ref hl2 hb=>exact .ref h1 ((hc i _ _ hl2 h1).trans hb)
   | _=>exact hr.elim
def Door (P : Program) (Γ : Gl) (g : FuncId) (caps : List SV) (rs : List ResultVar) (ret : D) (ts : List (Nat × SV)) (m m' : FrameMode) (e : Env) (s : St) : Prop :=
 refsAt s caps ∧ (∀ t x,lk t ts = some x → lk t e = some x) ∧ ∃ s',CFn P Γ g caps m s m' s' ∧ refsAt s' (ts.map (·.2)) ∧
  match retL P ts s' rs with
  | some (p,vs)=>p ∧ (oneV vs).toD s' = some ret
  | none=>False
def Kdoor (P : Program) (Γ : Gl) (g : FuncId) (caps : List SV) (rs : List ResultVar) (ret : D) (u : Value) (ts : List (Nat × SV)) : Exit → Env → St → Prop
 | .normal,e,s | .ret,e,s=>Door P Γ g caps rs ret ts .returning .returning e s
 | .panic ch,e,s=>ch = chainOf u ∧ Door P Γ g caps rs ret ts (.panicking [{ v:=u,recovered:=false }]) (.panicking [{ v:=u,recovered:=true }]) e s
 | _,_,_=>False
theorem refs_get {s : St} : ∀ {ts : List (Nat × SV)} {t : Nat} {x : SV},refsAt s (ts.map (·.2)) → lk t ts = some x → ∃ i o cs,x = .ref i o ∧ lk i s = some (.cells cs)
 | (t',y) :: ts,t,x,h,hl=>by
  unfold lk at hl
  cases y with
  | ref i o =>
   obtain ⟨⟨cs,h1⟩,h2⟩:=h
   cases hb : Nat.beq t t' with
   | true=>rw [hb] at hl; simp only [cond_true,Option.some.injEq] at hl; exact ⟨i,o,cs,hl.symm,h1⟩
   | false=>rw [hb] at hl; exact refs_get h2 hl
  | _=>exact h.elim
theorem vals_rp {C : Cx P N Γ} {β : Nat → Value} {e : Env} {s : St} {a : Act} {w : World} (inv : InvB C β e s a w) : ∀ (xs : List Operand),xs.all opdOK = true → Rp w C.F β s (.ss (vals e xs) (xs.map a.eval))
 | [],_=>.ssn
 | x :: l,h=>by
  simp only [List.all_cons,Bool.and_eq_true] at h
  exact .ssc (val_rp inv x h.1) (vals_rp inv l h.2)
theorem run_invoke {g : FuncId} {us : Array Value} (hg : entB P g = true) (w : World) : (invoke (.fn (.func g) us) #[]).run P w = .ok (.enter g us) w:=by
 unfold entB at hg
 split at hg
 · rename_i fn hfn
   simp only [Bool.and_eq_true,Bool.not_eq_true'] at hg
   have h2 : fn.body.isNone = false:=by cases h : fn.body <;> simp_all
   simp only [invoke,callFunc,Sem.run_bind,run_program,Result.andThen_ok,hfn,hg.1,h2]
   simp
 · cases hg
theorem door_ok {C0 C2 : Cx P N Γ} {β1 β3 : Nat → Value} {S : St} {e : Env} {s : St} {a : Act} {w1 w3 : World} {us : List Value} {g : FuncId} {caps : List SV} {fn : Func} {rs : List ResultVar} {ret : D} {ts : List (Nat × SV)} {m m' : FrameMode} {F : Nat → Prop} {w : World}
 {hl : ∀ b,F b → Γ.NG ≤ b} (hC0 : C0 = ⟨F,fun _=>undef,[],w,[],hl⟩) (hC2 : C2 = ⟨F, β1,S,w1,[{ target:=.fn (.func g) us.toArray,args := #[] }],hl⟩)
 (hs1 : Since C0 β1 S w1) (hrp : Rp w1 F β1 S (.ss caps us)) (inv : InvB C2 β3 e s a w3) (hrs : fn.results = rs.toArray) (hg : entB P g = true)
 (hcl : ∀ i cs cs',lk i S = some (.cells cs) → lk i s = some (.cells cs') → β3 i = β1 i) (hm : m ≠ .run) (hset : settle m' = .returning) (hD : Door P Γ g caps rs ret ts m m' e s) :
 Leaves P fn a.tmps (fun e w' => ∃ v,e = .returned v ∧ Below w.heap.size w w' ∧ RpD w' F (.d ret v)) a.defers m w3:=by
 obtain ⟨hr1,hts,s',hcfn,hr2,hret⟩:=hD
 have hdf:=inv.defers
 subst hC2 hC0
 rw [hdf]
 refine leaves_cons hm (run_invoke hg w3) ?_
 have hus : Rp w3 F β3 s (.ss caps us):=refs_later hcl hrp hr1
 refine (hcfn F β3 w3 us inv.glob inv.big inv.wr hl inv.base hus).mono ?_
 rintro en u' w4 ⟨v, β4,rfl,rfl,hW,hS,hG,hB⟩
 show Leaves P fn a.tmps _ [] (settle u') w4
 rw [hset]
 have inv4 : InvB (⟨F, β3,s,w3,[{ target:=.fn (.func g) us.toArray,args := #[] }],hl⟩ : Cx P N Γ) β4 ts s' a w4:=by
  refine ⟨hW,hB,fun t x hx=>?_,inv.size,hdf,hG,Nat.le_trans inv.big hS.size,⟨hS.os,hS.tape,hS.output,hS.size,hS.heap,hS.boxes,hS.cells,hS.keep⟩⟩
  have h1:=inv.env t x (hts t x hx)
  refine ⟨h1.1,?_⟩
  obtain ⟨i,o,cs,rfl,h2⟩:=refs_get hr2 hx
  have h3:=h1.2
  revert h3
  generalize a.tmps.getD t undef = uu
  intro h3
  cases h3 with
  | ref hl hb=>exact .ref h2 ((hS.cells i _ _ hl h2).trans hb)
 split at hret
 · rename_i p vs hre
   obtain ⟨u,g1,g2⟩:=results_run inv4 hrs hre hret.1
   have hsi : Since (⟨F,fun _=>undef,[],w,[],hl⟩ : Cx P N Γ) β4 s' w4:=Since.trans0 (N1:=N) (N2:=N) (N3:=N) (ds3:=[]) (Since.trans0 (N1:=N) (N2:=N) (N3:=N) (ds3:=[]) (l3:=hl) hs1 inv.since) inv4.since
   refine ⟨u,g1,u,rfl,⟨hsi.os,hsi.tape,hsi.output,hsi.size,fun b hb=>hsi.heap b hb (fun i bx h=>by cases h)⟩,?_⟩
   have:=toD_rp inv4 (s':=[]) (fun i bx h=>by cases h) _ ret u g2 hret.2 (fun i _=>rfl)
   exact this.keep (fun _ _ _=>rfl) (fun b _ h=>.inl h)
 · exact hret.elim
end
end Go.Sw
namespace Go.Sw
open Go.RowKit

section
variable {P : Program} {N : Nat} {Γ : Gl} {C : Cx P N Γ} {K : Exit → Env → St → Prop} {e : Env} {s : St}
theorem aop_val {J : Env → St → Prop} {dst : Option Tmp} {op : Op} {ty : TypeId} {pos : String} {af : Array Edge} (z : D) (hd : dst.all (fun d=>decide (d < N)) = true) (hl : z.lean = true)
 (hrun : ∀ (a : Act) (w : World),(∀ x d,opdOK x = true → val e x = .d d → d.lean = true → a.eval x = d.val) → (execOp a.eval ⟨dst,op,ty,pos,af,none⟩).run P w = .ok (.value z.val) w)
 (hJ : J (putO dst (.d z) e) s) : Aop C ⟨dst,op,ty,pos,af,none⟩ e s J K:=fun β a w inv K' hK'=>by
 unfold Oper.wp
 rw [hrun a w fun x d hx hv hd=>by
  have hr:=val_rp inv x hx
  rw [hv] at hr
  generalize a.eval x = y at hr
  cases hr with
  | d h=>exact RpD.val hd h]
 exact hK' _ _ _ _ _ (inv.put dst hd (.d (RpD.ofVal hl))) hJ
def Kclo (C : Cx P N Γ) (s' : St) : Exit → Env → St → Prop
 | .normal,e,s | .ret,e,s=>keepS C.s0 s' ∧ subS s s' s'
 | _,_,_=>False
theorem inv_boxes {F : Nat → Prop} {β : Nat → Value} {s : St} {w : World} {us : List Value} {args : List SV} (hG : Γ.G w) (hNG : Γ.NG ≤ w.heap.size) (hW : WR F β s w) (hl : ∀ b,F b → Γ.NG ≤ b) (hbase : ∀ i bx b,lk i s = some bx → blk (β i) = some b → Γ.NG ≤ b)
 (hargs : Rp w F β s (.ss args us)) {n : Nat} (hn : n = N) (hlen : args.length ≤ N) : InvB (⟨F, β,s,w,[],hl⟩ : Cx P N Γ) β (argS 0 args) s { tmps:=us.toArray ++ Array.replicate (n - us.toArray.size) undef,defers:=[] } w:=by
 have hul:=hargs.ss_len
 refine ⟨hW,hbase,fun t x hx=>?_,by simp [hul,hn]; omega,rfl,hG,hNG,⟨rfl,rfl,rfl,Nat.le_refl _,fun _ _ _=>rfl,fun i bx b h h2=>.inr ⟨i,bx,h,h2⟩,fun i c1 c2 h h2=>rfl,fun i bx h=>by rw [h]; simp⟩⟩
 obtain ⟨j,h1,h2⟩:=lk_argS hx
 have hj : j < args.length:=(List.getElem?_eq_some_iff.1 h2).1
 obtain ⟨u,h3,h4⟩:=Rp.ss_get j hargs h2
 obtain rfl : t = j:=by omega
 refine ⟨by omega,?_⟩
 have : (us.toArray ++ Array.replicate (n - us.toArray.size) undef).getD t undef = u:=by
  have ht : t < us.toArray.size:=by simp [hul]; exact hj
  rw [Array.getD_eq_getD_getElem?,Array.getElem?_append_left ht]
  simp [h3]
 rw [this]
 exact h4
theorem run_recover {ev : Operand → Value} {dst : Option Tmp} {ats : Array TypeId} {ty : TypeId} {pos : String} {af : Array Edge} {w : World} :
 (execOp ev ⟨dst,.call ⟨.builtin .recover, #[],ats⟩,ty,pos,af,none⟩).run P w = .ok .recover w:=by
 simp [execOp,resolve,invoke,Sem.run_bind,Go.builtin]
theorem cfn_of_swp {g : FuncId} {fn : Func} {REST : Code} {id r x : Nat} {ats : Array TypeId} {ty ty2 : TypeId} {p1 p2 : String} {af af2 : Array Edge} (hf : P.funcs[g]? = some fn)
 (hb : fn.body = some (.seq (.region id #[⟨some r,.call ⟨.builtin .recover, #[],ats⟩,ty,p1,af,none⟩,⟨some x,.assign (.tmp r),ty2,p2,af2,none⟩] false) REST)) (hN : fn.ntmps = N) (hrs : fn.results = #[])
 {args : List SV} {s s' : St} {m m' : FrameMode} {v : Value} (hm : ∀ (c : Frame) (cs : List Frame),c.mode = m → (recoverD (c :: cs) = none ∧ v = .nilIface ∧ m' = m) ∨ recoverD (c :: cs) = some (v, { c with mode:=m' } :: cs))
 (hv : v.oneCell' = true) (hr : r < N) (hx : x < N) (hlen : args.length ≤ N)
 (h : ∀ C : Cx P N Γ,C.s0 = s → Swp C REST (Kclo C s') (putO (some x) (.d (.v v)) (putO (some r) (.d (.v v)) (argS 0 args))) s) : CFn P Γ g args m s m' s':=by
 intro F β w us hG hNG hW hl hbase hargs
 have inv:=inv_boxes (P:=P) (N:=N) (Γ := Γ) hG hNG hW hl hbase hargs hN hlen
 refine callsD_of_wpS hf hb fun c₀ cs hc=>wpS_seq (wpS_region ?_)
 generalize hA : ({ tmps:=us.toArray ++ Array.replicate (fn.ntmps - us.toArray.size) undef,defers:=[] } : Act) = A at inv
 have hlast : ∀ cs',cs' = { c₀ with mode:=m' } :: cs → REST.wpS P (bodyPostS P fn c₀ cs fun e u' w' => ∃ v β',e = .returned v ∧ u' = m' ∧ WR F β' s' w' ∧ Since (⟨F, β,s,w,[],hl⟩ : Cx P 0 Γ) β' s' w' ∧ Γ.G w' ∧ ∀ i bx b,lk i s' = some bx → blk (β' i) = some b → Γ.NG ≤ b)
  ((A.put (some r) v).put (some x) ((A.put (some r) v).eval (.tmp r))) cs' w:=by
  rintro _ rfl
  have hrv : (A.put (some r) v).eval (.tmp r) = v:=by
   have hsz:=inv.size
   simp only [Act.put,Act.eval]
   rw [Array.getD_eq_getD_getElem?,Array.getElem?_setIfInBounds_self]
   simp [hsz,hr]
  rw [hrv]
  have hd : Rp w F β s (.s (.d (.v v)) v):=.d (.v v hv)
  have inv2:=(inv.put (some r) (by simpa using hr) hd).put (some x) (by simpa using hx) hd
  refine wpS_of_wp (wp_mono (h ⟨F, β,s,w,[],hl⟩ rfl _ _ _ inv2) ?_)
  rintro ex a w' ⟨β1,e,s1,inv',hk⟩
  have key : (keepS s s' ∧ subS s1 s' s') → a.defers = [] ∧ ∃ u',({ c₀ with mode:=m' } :: cs : List Frame) = { c₀ with mode:=u' } :: cs ∧ ∃ v,(results fn a.tmps).run P w' = .ok v w' ∧
   ∃ v_1 β',Ending.returned v = .returned v_1 ∧ u' = m' ∧ WR F β' s' w' ∧ Since (⟨F, β,s,w,[],hl⟩ : Cx P 0 Γ) β' s' w' ∧ Γ.G w' ∧ ∀ i bx b,lk i s' = some bx → blk (β' i) = some b → Γ.NG ≤ b:=by
   rintro ⟨k1,k2⟩
   obtain ⟨u,h1,h2⟩:=results_run (rs:=[]) (p:=True) (vs:=[]) inv' hrs rfl trivial
   have i2:=sub_ok (e':=[]) rfl k1 k2 trivial inv'
   exact ⟨inv'.defers,m',rfl,u,h1,u, β1,rfl,rfl,i2.wr,⟨i2.since.os,i2.since.tape,i2.since.output,i2.since.size,i2.since.heap,i2.since.boxes,i2.since.cells,i2.since.keep⟩,i2.glob,i2.base⟩
  cases ex with
  | normal=>exact key hk
  | ret=>exact key hk
  | _=>exact hk.elim
 show wpOpsS P _ _ [0,1] _ _ _
 have hrun2 : ∀ A2 : Act,(execOp A2.eval ⟨some x,.assign (.tmp r),ty2,p2,af2,none⟩).run P w = .ok (.value (A2.eval (.tmp r))) w:=fun A2=>by simp [execOp]
 simp only [wpOpsS,List.getElem?_toArray,List.getElem?_cons_zero,List.getElem?_cons_succ,Region.wanted,if_true,run_recover,hrun2]
 rcases hm c₀ cs hc with ⟨h1,rfl,rfl⟩ | h1
 · rw [h1]
   exact hlast _ (by subst hc; rfl)
 · rw [h1]
   exact hlast _ rfl
end
end Go.Sw
namespace Go.Sw
open Go.RowKit
section
variable {P : Program} {N : Nat} {Γ : Gl} {C : Cx P N Γ} {K : Exit → Env → St → Prop} {e : Env} {s : St}
theorem stop_glob {ops rest : List Oper} {dst : Option Tmp} {t : TypeId} {k : Nat} {ty : TypeId} {pos : String} {af : Array Edge} (d : D) (hB : regOK N (⟨dst,.load t (.global k),ty,pos,af,none⟩ :: rest) = true) (hg : GD P Γ k t d)
 (h : vcOps C ops rest (putO dst (.d d) e) s K) : Stop C ops (⟨dst,.load t (.global k),ty,pos,af,none⟩ :: rest) e s K:=by
 intro β a w inv
 simp only [regOK,List.all_cons,Bool.and_eq_true,opOK] at hB
 obtain ⟨⟨hdst,ho⟩,hB'⟩:=hB
 have ih:=vcOps_ok (ops:=ops) hB' h
 refine wpList_plain rfl fun K' hK'=>?_
 obtain ⟨u,h1,h2⟩:=hg w inv.glob
 unfold Oper.wp
 rw [run_glob h1]
 exact hK' _ _ (ih β _ _ (inv.put dst hdst (.d (h2.keep (fun _ _ _=>rfl) (fun b _ hm=>mut_lo inv hm)))))
end
end Go.Sw
namespace Go.Sw
open Go.RowKit
section
variable {P : Program} {N : Nat} {Γ : Gl} {C : Cx P N Γ} {K : Exit → Env → St → Prop} {e : Env} {s : St}
def Kfam {ι : Type} (C : Cx P N Γ) (E : ι → Env) (S : ι → St) (I : ι → Prop) (K : Exit → Env → St → Prop) : Exit → Env → St → Prop
 | .normal,e,s => ∃ i,I i ∧ Sub C e s (E i) (S i)
 | ex,e,s=>K ex e s
theorem swp_midF {ι : Type} {x b : Code} (E : ι → Env) (S : ι → St) (I : ι → Prop) (h : Swp C x (Kfam C E S I K) e s) (h2 : ∀ i,I i → Swp C b K (E i) (S i)) : Swp C x (Kseq C b K) e s:=fun β a w inv =>
 wp_mono (h β a w inv) fun ex a w ⟨β,e,s,i,hk⟩=>by
  cases ex with
  | normal =>
   obtain ⟨j,hj,hs⟩:=hk
   refine ⟨β,e,s,i,fun β a w i=>?_⟩
   obtain ⟨β',i'⟩:=hs β a w i
   exact h2 j hj β' a w i'
  | _=>exact ⟨β,e,s,i,hk⟩
theorem kfam_n {ι : Type} {E : ι → Env} {S : ι → St} {I : ι → Prop} (i : ι) (hi : I i) (h : Sub C e s (E i) (S i)) : Kfam C E S I K .normal e s:=⟨i,hi,h⟩
theorem kfam_r {ι : Type} {E : ι → Env} {S : ι → St} {I : ι → Prop} (h : K .ret e s) : Kfam C E S I K .ret e s:=h
end
end Go.Sw
namespace Go.Sw
open Go.RowKit
theorem flat_set : ∀ {L : List D} {k : Nat} (hk : ∀ x ∈ L,x.cells.length = k) {idx off : Nat} {vs : List D} {d' : D} (hi : idx < L.length) (hd : d'.cells = upd (L.getD idx default).cells off vs) (hf : off + vs.length ≤ k),(L.set idx d').flatMap D.cells = upd (L.flatMap D.cells) (idx * k + off) vs
 | x :: L,k,hk,0,off,vs,d',hi,hd,hf=>by
  have h1:=hk x (by simp)
  simp only [List.getD_cons_zero] at hd
  rw [List.set_cons_zero,List.flatMap_cons,List.flatMap_cons,hd]
  unfold upd
  rw [Nat.zero_mul,Nat.zero_add,List.take_append_of_le_length (by omega),List.drop_append_of_le_length (by omega)]
  simp only [List.append_assoc]
 | x :: L,k,hk,i + 1,off,vs,d',hi,hd,hf=>by
  have h1:=hk x (by simp)
  simp only [List.getD_cons_succ] at hd
  rw [List.set_cons_succ,List.flatMap_cons,List.flatMap_cons,flat_set (fun y hy=>hk y (by simp [hy])) (by simpa using hi) hd hf]
  unfold upd
  rw [show (i + 1) * k + off = x.cells.length + (i * k + off) by rw [h1,Nat.add_mul]; omega,List.take_length_add_append,Nat.add_assoc (x.cells.length),List.drop_length_add_append]
  simp only [List.append_assoc]
theorem RpD.ds_take {w : World} {M : Nat → Prop} : ∀ {l : List D} {us : List Value} (n : Nat),RpD w M (.ds l us) → RpD w M (.ds (l.take n) (us.take n))
 | _,_,0,_=>by simpa using RpD.dsn
 | _,_,n + 1,.dsn=>by simpa using RpD.dsn
 | _,_,n + 1,.dsc h ht=>.dsc h (RpD.ds_take n ht)
theorem RpD.ds_drop {w : World} {M : Nat → Prop} : ∀ {l : List D} {us : List Value} (n : Nat),RpD w M (.ds l us) → RpD w M (.ds (l.drop n) (us.drop n))
 | _,_,0,h=>h
 | _,_,n + 1,.dsn=>by simpa using RpD.dsn
 | _,_,n + 1,.dsc h ht=>by simpa using RpD.ds_drop n ht
theorem RpD.dsLen {w : World} {M : Nat → Prop} : ∀ {l : List D} {us : List Value},RpD w M (.ds l us) → us.length = l.length
 | _,_,.dsn=>rfl
 | _,_,.dsc _ ht=>by simp [RpD.dsLen ht]
theorem RpD.ds_upd {w : World} {M : Nat → Prop} {l vs : List D} {us ws : List Value} (off : Nat) (h : RpD w M (.ds l us)) (h' : RpD w M (.ds vs ws)) : RpD w M (.ds (upd l off vs) (upd us off ws)):=by
 unfold upd
 rw [h'.dsLen]
 exact ((h.ds_take off).ds_app h').ds_app (h.ds_drop _)
theorem ss_ds {w : World} {F : Nat → Prop} {β : Nat → Value} {s : St} : ∀ {l : List D} {us : List Value},Rp w F β s (.ss (l.map .d) us) → RpD w (Mut F β s) (.ds l us)
 | [],_,h=>by cases h; exact .dsn
 | x :: l,_,h=>by
  cases h with
  | ssc hx ht =>
   cases hx with
   | d h=>exact .dsc h (ss_ds ht)
theorem dscs_scs : ∀ {l : List D},dscs l → scs (l.map .d)
 | [],_=>trivial
 | .v _ :: l,h=>⟨rfl,dscs_scs h⟩
 | .slc _ :: l,h=>⟨rfl,dscs_scs h⟩
 | .agg _ :: l,h=>by simp [dscs] at h
 | .tup _ :: l,h=>by simp [dscs] at h
 | .ptr _ :: l,h=>by simp [dscs] at h
section
variable {P : Program} {N : Nat} {Γ : Gl} {C : Cx P N Γ} {K : Exit → Env → St → Prop} {e : Env} {s : St}
theorem ok_storeE {dst : Option Tmp} {gd : Option (Tmp × Bool)} {t : TypeId} {y z : Operand} {ty : TypeId} {pos : String} {af : Array Edge} {i idx off k n : Nat} {L vs : List D} (d' : D)
 (ho' : opdOK y = true ∧ opdOK z = true) (hy1 : ok1 true (val e y)) (hz1 : ok1 true (val e z)) (hv : opn (val e y) = .eref i idx off) (hl : lk i s = some (.row k L)) (hn : szOf P t = some n)
 (hz : (opn (val e z)).cells = vs.map .d) (hlen : vs.length = n) (hds : dscs vs) (hfit : off + n ≤ k) (hd : d'.cells = upd (L.getD idx default).cells off vs) : OpOK C ⟨dst,.store t y z,ty,pos,af,gd⟩ e s .junk e (put i (.row k (L.set idx d')) s):=by
 intro β a w inv K' Q hK'
 have hq:=opn_rp (val_rp inv y ho'.1) hy1
 have hr:=opn_rp (val_rp inv z ho'.2) hz1
 rw [hv] at hq
 obtain ⟨k',L',b,nn,c,hl',hi,hb,hu⟩:=rp_eref hq
 rw [hl] at hl'
 cases hl'
 have hsc:=dscs_scs hds
 rw [← hz] at hsc
 have hc:=cells_rp inv hr hsc
 have hone:=scs_one inv hc hsc
 rw [hz] at hc
 have hcd:=ss_ds hc
 have hlen2 : (a.eval z).cells.toList.length = n:=by rw [hcd.dsLen,hlen]
 obtain ⟨h0,hk,el,xs,g1,g2,g3⟩:=inv.wr.boxes i _ hl
 have hxl:=g1.1
 rcases g1.2 with ⟨e1,e2⟩ | ⟨gg,cap,cur,e1, -,e3,e4,e5,e6,e7⟩
 · rw [hb] at e1; cases e1
 rw [hb] at e1
 simp only [Value.slice.injEq,Option.some.injEq,Addr.mk.injEq,and_true] at e1
 obtain ⟨rfl,rfl,rfl⟩:=e1
 have hm : idx * k + k ≤ L.length * k:=by rw [← Nat.succ_mul]; exact Nat.mul_le_mul_right _ hi
 have hcap : L.length * k ≤ c * k:=Nat.mul_le_mul_right _ e4
 have hst:=run_storeCells_at P b (idx * k + off) el (a.eval z).cells.toList 0 cur w e3 (by rw [hlen2,e6]; omega) hone
 have hcl : cur.toList.length = cur.size:=by simp
 have hsetlen : (L.set idx d').length = L.length:=by simp
 have hdl : d'.cells.length = k:=by
  have:=hk _ (List.getElem_mem hi)
  rw [hd,show L.getD idx default = L[idx] by simp [hi]]
  unfold upd
  simp only [List.length_append,List.length_take,List.length_drop,this,hlen]
  omega
 have hnew:=rowkeepI inv (w':=w.setRow b (cur.toList.take (idx * k + off + 0) ++ (a.eval z).cells.toList ++ cur.toList.drop (idx * k + off + 0 + (a.eval z).cells.toList.length)).toArray) hl (L':=L.set idx d') (by simp) rfl rfl rfl (by simp)
  (fun b2 hb2 hne=>setRow_other w b b2 _ (fun he=>hne (by rw [hb,he]; rfl))) h0
  (fun x hx=>by
   rcases List.mem_or_eq_of_mem_set hx with hx | rfl
   · exact hk x hx
   · exact hdl)
  (el:=el) (xs:=upd xs (idx * k + off) (a.eval z).cells.toList)
  (by
   rw [hsetlen]
   refine ⟨?_,.inr ⟨b,c,_,hb,Nat.zero_le _,setRow_heap w b cur _ el (0,0) e3,e4,e5,?_,?_⟩⟩
   · unfold upd
     simp only [List.length_append,List.length_take,List.length_drop,hxl,hlen2]
     omega
   · simp only [List.size_toArray,List.length_append,List.length_take,List.length_drop,Array.length_toList,hlen2]
     omega
   · simp only [List.toList_toArray,Nat.add_zero]
     unfold upd
     rw [← e7,List.append_assoc,List.append_assoc,List.take_append,List.take_append,List.take_take,List.take_take,List.length_take,hcl,List.drop_take,hlen2]
     rw [Nat.min_eq_left (show idx * k + off ≤ cur.size by omega),Nat.min_eq_right (show idx * k + off ≤ L.length * k by omega),Nat.min_eq_left (show idx * k + off ≤ L.length * k by omega),List.take_of_length_le (l:=(a.eval z).cells.toList) (by omega),show L.length * k - (idx * k + off) - n = L.length * k - (idx * k + off + n) by omega])
  (by
   rw [flat_set hk hi hd (by omega)]
   exact (g2.ds_upd _ hcd))
  (by
   intro u hu'
   unfold upd at hu'
   simp only [List.mem_append] at hu'
   rcases hu' with (hu' | hu') | hu'
   · exact g3 u (List.mem_of_mem_take hu')
   · exact hone u hu'
   · exact g3 u (List.mem_of_mem_drop hu'))
 have hsz : ((a.eval z).cells.size ≠ n) = False:=by
  have : (a.eval z).cells.size = n:=by rw [← Array.length_toList,hlen2]
  simp [this]
 unfold Oper.wp execOp
 simp only [Instr.storeAt,hu,Instr.sureAddr,Sem.run_bind,Sem.run_pure,Result.andThen_ok,storeVar,szOf_run hn,hsz,if_false,hst,Oper.upon]
 exact hK' _ _ _ hnew (fun h=>by cases h) .junk
def dAll : List SV → Option (List D)
 | []=>some []
 | .d x :: l=>(dAll l).map (x :: ·)
 | _ :: _=>none
theorem dAll_map : ∀ {l : List SV} {vs : List D},dAll l = some vs → l = vs.map .d
 | [],_,h=>by cases h; rfl
 | x :: l,vs,h=>by
  cases x with
  | d x =>
   simp only [dAll] at h
   obtain ⟨vs',h1,rfl⟩:=Option.map_eq_some_iff.1 h
   rw [dAll_map h1]; rfl
  | _=>cases h
def storeE (P : Program) (g : Bool) (op : Op) (e : Env) (s : St) : Option (Prop × Nat × Box) :=
 match op with
 | .store t y z=>match opn (val e y) with
  | .eref i idx off=>match lk i s,szOf P t,dAll (opn (val e z)).cells with
   | some (.row k L),some n,some vs=>(setE (L.getD idx default) off vs).map fun d'=>(g = true ∧ ok1 true (val e y) ∧ ok1 true (val e z) ∧ vs.length = n ∧ dscs vs ∧ off + n ≤ k ∧ d'.cells = upd (L.getD idx default).cells off vs,i,.row k (L.set idx d'))
   | _,_,_=>none
  | _=>none
 | _=>none
theorem storeE_ok {o : Oper} {e' : Env} {s' : St} {p : Prop} {b : Nat} {B : Box} (ho : o.op.operands.toList.all opdOK = true) (hv : ∀ y ∈ o.op.operands.toList,val e' y = val e y) (hvs : ∀ y ∈ o.op.operands.toList, ∀ i idx off,opn (val e y) = .eref i idx off → lk i s' = lk i s)
 (h : storeE P true o.op e s = some (p,b,B)) (hp : p) : OpOK C o e' s' .junk e' (put b B s'):=by
 obtain ⟨dst,op,ty,pos,af,gd⟩:=o
 unfold storeE at h
 split at h
 · rename_i t y z hop
   simp only at hop
   subst hop
   split at h
   · rename_i i idx off hy
     split at h
     · rename_i k L n vs hl hn hz
       obtain ⟨d',h1,h2⟩:=Option.map_eq_some_iff.1 h
       simp only [Prod.mk.injEq] at h2
       obtain ⟨rfl,rfl,rfl⟩:=h2
       obtain ⟨-,g1,g2,g3,g4,g5,g6⟩:=hp
       have vy : val e' y = val e y:=hv y (by simp [Op.operands])
       have vz : val e' z = val e z:=hv z (by simp [Op.operands])
       exact ok_storeE d' (by simpa [Op.operands] using ho) (by rw [vy]; exact g1) (by rw [vz]; exact g2) (by rw [vy]; exact hy) (by rw [hvs y (by simp [Op.operands]) _ _ _ hy]; exact hl) hn (by rw [vz]; exact dAll_map hz) g3 g4 g5 g6
     · cases h
   · cases h
 · cases h
theorem storeE_idle {op : Op} {p : Prop} {b : Nat} {B : Box} (h : storeE P false op e s = some (p,b,B)) (hp : p) : False:=by
 unfold storeE at h
 (repeat' split at h)
 all_goals first
  | (cases h; done)
  | (obtain ⟨d',h1,h2⟩:=Option.map_eq_some_iff.1 h
     simp only [Prod.mk.injEq] at h2
     obtain ⟨rfl, -, -⟩:=h2
     exact absurd hp.1 (by simp))
end
end Go.Sw
namespace Go.Sw
open Go.RowKit
section
variable {P : Program} {N : Nat} {Γ : Gl} {C : Cx P N Γ} {e : Env} {s : St}
theorem rownil_inv {β : Nat → Value} {a : Act} {w : World} (inv : InvB C β e s a w) {i k : Nat} {L : List D} (hl : lk i s = some (.row k L)) :
 InvB C (bset β i (.slice none 0 0)) (jkE (Nat.beq i) e) (put i (.row k []) (jkS (Nat.beq i) s)) a w:=by
 have hk0 : 0 < k:=(inv.wr.boxes i _ hl).1
 have get : ∀ j bx,j ≠ i → lk j (put i (.row k []) (jkS (Nat.beq i) s)) = some bx → ∃ b,lk j s = some b ∧ bx = b.jk (Nat.beq i):=fun j bx hj h=>by
  rw [lk_put_ne _ hj,lk_jkS] at h
  cases hl : lk j s with
  | none=>rw [hl] at h; cases h
  | some b=>rw [hl] at h; exact ⟨b,rfl,by simpa using h.symm⟩
 have hx : Ext (Nat.beq i) C.F w β s w (bset β i (.slice none 0 0)) (put i (.row k []) (jkS (Nat.beq i) s)):=by
  refine ⟨fun _ _ _=>rfl,fun b hb hm=>?_,fun j cs hX h=>?_,fun j k2 L2 hX h=>?_,fun j M hX h=>?_⟩
  · rcases hm with hm | ⟨j,bx,h1,h2⟩
    · exact .inl hm
    · by_cases hj : j = i
      · subst hj
        rw [bset_same] at h2
        cases h2
      · obtain ⟨b2,g1, -⟩:=get j bx hj h1
        rw [bset_ne hj] at h2
        exact .inr ⟨j,b2,g1,h2⟩
  · have hj : j ≠ i:=fun h=>by subst h; simp at hX
    exact ⟨bset_ne hj,SV.jks (Nat.beq i) cs,by rw [lk_put_ne _ hj,lk_jkS,h]; rfl⟩
  · have hj : j ≠ i:=fun h=>by subst h; simp at hX
    exact ⟨bset_ne hj,L2,by rw [lk_put_ne _ hj,lk_jkS,h]; rfl,Nat.le_refl _⟩
  · have hj : j ≠ i:=fun h=>by subst h; simp at hX
    exact ⟨bset_ne hj,M,by rw [lk_put_ne _ hj,lk_jkS,h]; rfl⟩
 refine inv.step hx ⟨fun j bx h=>?_,fun j1 j2 b1 b2 b h1 h2 h3 h4=>?_,fun j bx b h h2=>?_,inv.wr.low⟩ ⟨inv.since.os,inv.since.tape,inv.since.output,inv.since.size,fun b hb h=>?_,fun j bx b h h2=>?_,fun j c1 c2 h h2=>?_,fun j bx h=>?_⟩ (Nat.le_refl _) (fun b hb=>rfl) (fun j bx b h h2=>?_)
 · by_cases hj : j = i
   · subst hj
     rw [lk_put_same] at h
     cases h
     exact ⟨hk0,(fun x hx=>by cases hx),0,[],(by rw [bset_same]; exact World.ownsRow_nil w 0 0 k),.dsn,(fun u hu=>by cases hu)⟩
   · obtain ⟨b2,g1,rfl⟩:=get j bx hj h
     have hb:=inv.wr.boxes j b2 g1
     have hsame : ∀ b,blk (β j) = some b → w.heap[b]? = w.heap[b]? := fun b hb2=>rfl
     cases b2 with
     | cells cs =>
      obtain ⟨bb,t,us,h1,h2,h3,h4⟩:=hb
      exact ⟨bb,t,us,by rw [bset_ne hj]; exact h1,by rw [hsame bb (by rw [h1]; rfl)]; exact h2,Rp.keep hx h3,h4⟩
     | row k2 L2 =>
      obtain ⟨g0,hk2,el2,xs2,q1,q2,q3⟩:=hb
      refine ⟨g0,hk2,el2,xs2,?_,q2.keep hx.heap hx.mutb,q3⟩
      rw [bset_ne hj]
      refine ⟨q1.1,?_⟩
      rcases q1.2 with h | ⟨gg,cap,cur,e1,e2,e3,e4⟩
      · exact .inl h
      · exact .inr ⟨gg,cap,cur,e1,e2,by rw [hsame gg (by rw [e1]; rfl)]; exact e3,e4⟩
     | mp M =>
      obtain ⟨bb,h1,h2⟩:=hb
      exact ⟨bb,by rw [bset_ne hj]; exact h1,by rw [hsame bb (by rw [h1]; rfl)]; exact h2⟩
 · by_cases hj1 : j1 = i
   · by_cases hj2 : j2 = i
     · omega
     · subst hj1
       rw [bset_same] at h3
       cases h3
   · obtain ⟨c1,g1, -⟩:=get j1 b1 hj1 h1
     rw [bset_ne hj1] at h3
     by_cases hj2 : j2 = i
     · subst hj2
       rw [bset_same] at h4
       cases h4
     · obtain ⟨c2,g2, -⟩:=get j2 b2 hj2 h2
       rw [bset_ne hj2] at h4
       exact inv.wr.inj j1 j2 c1 c2 b g1 g2 h3 h4
 · by_cases hj : j = i
   · subst hj
     rw [bset_same] at h2
     cases h2
   · obtain ⟨c,g1, -⟩:=get j bx hj h
     rw [bset_ne hj] at h2
     exact inv.wr.apart j c b g1 h2
 · exact inv.since.heap b hb h
 · by_cases hj : j = i
   · subst hj
     rw [bset_same] at h2
     cases h2
   · obtain ⟨c,g1, -⟩:=get j bx hj h
     rw [bset_ne hj] at h2
     exact inv.since.boxes j c b g1 h2
 · by_cases hj : j = i
   · subst hj; rw [lk_put_same] at h2; cases h2
   · obtain ⟨c,g1,g2⟩:=get j _ hj h2
     rw [bset_ne hj]
     cases c with
     | cells cs=>exact inv.since.cells j c1 cs h g1
     | row=>cases g2
     | mp=>cases g2
 · by_cases hj : j = i
   · subst hj; rw [lk_put_same]; simp
   · rw [lk_put_ne _ hj,lk_jkS]
     have:=inv.since.keep j bx h
     cases hlj : lk j s with
     | none=>exact absurd hlj this
     | some b=>simp
 · by_cases hj : j = i
   · subst hj
     rw [bset_same] at h2
     cases h2
   · obtain ⟨c,g1, -⟩:=get j bx hj h
     rw [bset_ne hj] at h2
     exact inv.base j c b g1 h2
theorem rownil_rp {β : Nat → Value} {a : Act} {w : World} (inv : InvB C β e s a w) {i k : Nat} {L : List D} (hl : lk i s = some (.row k L)) {v : Value} (hv : Rp w C.F β s (.s (.own i) v)) :
 Rp w C.F (bset β i (.slice none 0 0)) (put i (.row k []) (jkS (Nat.beq i) s)) (.s (.d (.slc L)) v):=by
 let s1 : St:=s.filter fun q => !Nat.beq i q.1
 have hs1 : ∀ j,lk j s1 = if j = i then none else lk j s:=fun j=>by
  show lk j (s.filter fun q => !Nat.beq i q.1) = _
  clear hv hl inv
  induction s with
  | nil=>simp [lk]
  | cons q s ih =>
   obtain ⟨m,b⟩:=q
   simp only [List.filter_cons]
   by_cases hm : m = i
   · subst hm
     rw [beq_self]
     simp only [Bool.not_true,Bool.false_eq_true,if_false,ih]
     by_cases hj : j = m
     · rw [if_pos hj,if_pos hj]
     · rw [if_neg hj,if_neg hj,lk_cons_ne hj]
   · rw [beq_ne (Ne.symm hm)]
     simp only [Bool.not_false,if_true]
     by_cases hjm : j = m
     · subst hjm
       rw [lk_cons_same,lk_cons_same,if_neg hm]
     · rw [lk_cons_ne hjm,lk_cons_ne hjm,ih]
 have hf : Fewer s s1:=fun j bx h=>by
  rw [hs1] at h
  by_cases hj : j = i
  · rw [if_pos hj] at h; cases h
  · rw [if_neg hj] at h; exact ⟨bx,h⟩
 have h1 : RpD w (Mut C.F β s1) (.d (.slc L) v):=toD_rp inv hf (.own i) (.slc L) _ hv (by simp [SV.toD,hl]) (fun j hj=>by
  simp [SV.owns] at hj; subst hj; rw [hs1,if_pos rfl])
 refine .d (h1.keep (fun _ _ _=>rfl) (fun b _ hm=>?_))
 rcases hm with hm | ⟨j,bx,g1,g2⟩
 · exact .inl hm
 · by_cases hj : j = i
   · subst hj; rw [bset_same] at g2; cases g2
   · rw [lk_put_ne _ hj,lk_jkS] at g1
     rw [bset_ne hj] at g2
     cases hlj : lk j s with
     | none=>rw [hlj] at g1; cases g1
     | some b2=>exact .inr ⟨j,b2,by rw [hs1,if_neg hj,hlj],g2⟩
end
end Go.Sw
namespace Go.Sw
open Go.RowKit

def mapO {α β : Type} (f : α → Option β) : List α → Option (List β)
 | []=>some []
 | x :: l=>match f x,mapO f l with
  | some d,some ds=>some (d :: ds)
  | _,_=>none
def allIn (vs : List Nat) : List Nat → Bool
 | []=>true
 | i :: l=>inX vs i && allIn vs l
def viewD (vs : List Nat) (s : St) : Nat → SV → Option D
 | 0,_=>none
 | n + 1,x=>match x with
  | .ref j 0=>match lk j s with
   | some (.cells cs)=>bif inX vs j then (mapO (viewD vs s n) cs).map fun ds=>.ptr (.agg ds) else none
   | _=>none
  | x=>bif allIn vs x.hnd then x.toD s else none
def viewS (vs : List Nat) (s : St) : Nat → SV → Option SV
 | 0,_=>none
 | n + 1,x=>match x with
  | .ref j o=>match lk j s with
   | some (.cells cs)=>bif inX vs j then (mapO (viewD vs s n) cs).map fun ds=>.fptr (.agg ds) o else none
   | _=>none
  | .clo f cs=>(mapO (viewS vs s n) cs).map (.clo f)
  | .fptr y o=>some (.fptr y o)
  | x=>bif allIn vs x.hnd then (x.toD s).map .d else none
def wArg (vs : List Nat) (s : St) (i : Nat) (x : SV) : Option SV:=match x with
 | .ref j o=>bif Nat.beq j i then some (.ref j o) else viewS vs s 4 (.ref j o)
 | x=>viewS vs s 4 x
theorem allIn_mem {vs : List Nat} : ∀ {l : List Nat},allIn vs l = true → ∀ i ∈ l,inX vs i = true
 | j :: l,h,i,hi=>by
  simp only [allIn,Bool.and_eq_true] at h
  rcases List.mem_cons.1 hi with rfl | hi
  · exact h.1
  · exact allIn_mem h.2 i hi
mutual
theorem owns_hnd : ∀ (x : SV) (i : Nat),i ∈ x.owns → i ∈ x.hnd
 | .own j,i,h=>by simpa [SV.owns,SV.hnd] using h
 | .agg cs,i,h=>by simp only [SV.owns] at h; simp only [SV.hnd]; exact ownss_hnds cs i h
 | .tup cs,i,h=>by simp only [SV.owns] at h; simp only [SV.hnd]; exact ownss_hnds cs i h
 | .ref _ _,i,h | .eref _ _ _,i,h | .sref _ _,i,h | .mp _,i,h | .clo _ _,i,h | .grd _ _,i,h | .d _,i,h | .nil,i,h | .fptr _ _,i,h | .junk,i,h=>by simp [SV.owns] at h
theorem ownss_hnds : ∀ (l : List SV) (i : Nat),i ∈ SV.ownss l → i ∈ SV.hnds l
 | [],i,h=>by simp [SV.ownss] at h
 | x :: l,i,h=>by
  simp only [SV.ownss,List.mem_append] at h
  simp only [SV.hnds,List.mem_append]
  rcases h with h | h
  · exact .inl (owns_hnd x i h)
  · exact .inr (ownss_hnds l i h)
end
theorem mapO_lat {α β : Type} {f g : α → Option β} (h : ∀ x d,f x = some d → g x = some d) : ∀ {l : List α} {ds : List β},mapO f l = some ds → mapO g l = some ds
 | [],ds,hd=>hd
 | x :: l,ds,hd=>by
  unfold mapO at hd ⊢
  cases hx : f x with
  | none=>rw [hx] at hd; cases hd
  | some d =>
   cases hl : mapO f l with
   | none=>rw [hx,hl] at hd; cases hd
   | some r=>rw [hx,hl] at hd; rw [h x d hx,mapO_lat h hl]; exact hd
theorem viewD_lat {vs : List Nat} {s s' : St} (h : ∀ b,inX vs b = true → lk b s' = lk b s) : ∀ (n : Nat) (x : SV) (d : D),viewD vs s n x = some d → viewD vs s' n x = some d
 | 0,x,d,hd=>by cases hd
 | n + 1,x,d,hd=>by
  unfold viewD at hd ⊢
  split at hd
  · rename_i j
    split at hd
    · rename_i cs hl
      cases hv : inX vs j with
      | false=>rw [hv] at hd; cases hd
      | true =>
       rw [hv,cond_true] at hd
       simp only [h j hv,hl,hv,cond_true]
       cases hm : mapO (viewD vs s n) cs with
       | none=>rw [hm] at hd; cases hd
       | some ds=>rw [mapO_lat (viewD_lat h n) hm]; rw [hm] at hd; exact hd
    · cases hd
  · cases hv : allIn vs x.hnd with
    | false=>rw [hv] at hd; cases hd
    | true =>
     rw [hv,cond_true] at hd
     simp only [cond_true]
     exact toD_lat (fun b hb B hB=>by rw [h b (allIn_mem hv b hb)]; exact hB) hd
theorem viewS_lat {vs : List Nat} {s s' : St} (h : ∀ b,inX vs b = true → lk b s' = lk b s) : ∀ (n : Nat) (x : SV) (d : SV),viewS vs s n x = some d → viewS vs s' n x = some d
 | 0,x,d,hd=>by cases hd
 | n + 1,x,d,hd=>by
  unfold viewS at hd ⊢
  split at hd
  · rename_i j o
    split at hd
    · rename_i cs hl
      cases hv : inX vs j with
      | false=>rw [hv] at hd; cases hd
      | true =>
       rw [hv,cond_true] at hd
       simp only [h j hv,hl,hv,cond_true]
       cases hm : mapO (viewD vs s n) cs with
       | none=>rw [hm] at hd; cases hd
       | some ds=>rw [mapO_lat (viewD_lat h n) hm]; rw [hm] at hd; exact hd
    · cases hd
  · rename_i f cs
    cases hm : mapO (viewS vs s n) cs with
    | none=>rw [hm] at hd; cases hd
    | some ds=>rw [mapO_lat (viewS_lat h n) hm]; rw [hm] at hd; exact hd
  · exact hd
  · rename_i q1 q2 q3
    cases hv : allIn vs x.hnd with
    | false=>rw [hv] at hd; cases hd
    | true =>
     rw [hv,cond_true] at hd
     simp only [cond_true]
     cases hz : x.toD s with
     | none=>rw [hz] at hd; cases hd
     | some z=>rw [toD_lat (fun b hb B hB=>by rw [h b (allIn_mem hv b hb)]; exact hB) hz]; rw [hz] at hd; exact hd
theorem wArg_lat {vs : List Nat} {s s' : St} {i : Nat} (h : ∀ b,inX vs b = true → lk b s' = lk b s) {x y : SV} (hy : wArg vs s i x = some y) : wArg vs s' i x = some y:=by
 unfold wArg at hy ⊢
 split at hy
 · rename_i j o
   cases hb : Nat.beq j i with
   | true=>rw [hb] at hy; simpa using hy
   | false=>rw [hb] at hy; simp only [cond_false] at hy ⊢; exact viewS_lat h _ _ _ hy
 · exact viewS_lat h _ _ _ hy

section
variable {P : Program} {N : Nat} {Γ : Gl} {C : Cx P N Γ} {β : Nat → Value} {e : Env} {s : St} {a : Act} {w : World} {i : Nat} {c0 : List SV} {vs : List Nat}
abbrev M1 (β : Nat → Value) (i : Nat) (c0 : List SV) : Nat → Prop:=Mut (fun _=>False) β [(i,.cells c0)]
theorem m1_sub (hl : lk i s = some (.cells c0)) (b : Nat) (h : M1 β i c0 b) : Mut C.F β s b:=by
 rcases h with h | ⟨j,bx,h1,h2⟩
 · exact h.elim
 · unfold lk at h1
   by_cases hji : j = i
   · subst hji; exact .inr ⟨j,_,hl,h2⟩
   · rw [beq_ne hji,cond_false] at h1; cases h1
theorem m1_only {b : Nat} (h : M1 β i c0 b) : blk (β i) = some b:=by
 rcases h with h | ⟨j,bx,h1,h2⟩
 · exact h.elim
 · unfold lk at h1
   by_cases hji : j = i
   · subst hji; exact h2
   · rw [beq_ne hji,cond_false] at h1; cases h1
theorem mapO_ss {w : World} {R : SV → Value → Prop} {f : SV → Option D} {M : Nat → Prop} {F : Nat → Prop} {β : Nat → Value} {s : St} (h : ∀ x d u,Rp w F β s (.s x u) → f x = some d → RpD w M (.d d u)) : ∀ {l : List SV} {ds : List D} {us : List Value},Rp w F β s (.ss l us) → mapO f l = some ds → RpD w M (.ds ds us)
 | [],ds,us,hr,hd=>by
  unfold mapO at hd; cases hd; cases hr; exact .dsn
 | x :: l,ds,us,hr,hd=>by
  unfold mapO at hd
  cases hx : f x with
  | none=>rw [hx] at hd; cases hd
  | some d =>
   cases hm : mapO f l with
   | none=>rw [hx,hm] at hd; cases hd
   | some r =>
    rw [hx,hm] at hd
    simp only [Option.some.injEq] at hd
    subst hd
    cases hr with
    | ssc h1 h2=>exact .dsc (h x d _ h1 hx) (mapO_ss (R:=R) h h2 hm)
theorem toD_m1 (inv : InvB C β e s a w) (hl : lk i s = some (.cells c0)) (hvi : inX vs i = false) {x : SV} {z : D} {u : Value} (hr : Rp w C.F β s (.s x u)) (hv : allIn vs x.hnd = true) (hz : x.toD s = some z) : RpD w (M1 β i c0) (.d z u):=by
 have hne : ∀ j,inX vs j = true → lk j [(i,Box.cells c0)] = none:=fun j hj=>by
  unfold lk
  by_cases hji : j = i
  · subst hji; rw [hvi] at hj; cases hj
  · rw [beq_ne hji,cond_false]; rfl
 refine (toD_rp inv (s':=[(i,.cells c0)]) (fun j bx hj=>?_) x z u hr hz (fun j hj=>hne j (allIn_mem hv j (owns_hnd x j hj)))).keep (fun _ _ _=>rfl) (fun b _ hm=>?_)
 · unfold lk at hj
   by_cases hji : j = i
   · subst hji; exact ⟨_,hl⟩
   · rw [beq_ne hji,cond_false] at hj; cases hj
 · rcases hm with hm | hm
   · exact hm.elim
   · exact .inr hm
theorem viewD_rp (inv : InvB C β e s a w) (hl : lk i s = some (.cells c0)) (hvi : inX vs i = false) : ∀ (n : Nat) (x : SV) (z : D) (u : Value),Rp w C.F β s (.s x u) → viewD vs s n x = some z → RpD w (M1 β i c0) (.d z u)
 | 0,x,z,u,hr,hz=>by cases hz
 | n + 1, x,z,u,hr,hz=>by
  unfold viewD at hz
  split at hz
  · rename_i j
    split at hz
    · rename_i cs hlj
      cases hv : inX vs j with
      | false=>rw [hv] at hz; cases hz
      | true =>
       rw [hv,cond_true] at hz
       obtain ⟨ds,hm,rfl⟩:=Option.map_eq_some_iff.1 hz
       generalize hx : SV.ref j 0 = X at hr
       cases hr with
       | @ref i' o b cs' h1 h2 =>
        cases hx
        rw [hlj] at h1
        cases h1
        obtain ⟨bb,t,us,g1,g2,g3,g4⟩:=inv.wr.boxes j _ hlj
        rw [h2] at g1
        obtain rfl : b = bb:=by simpa using g1
        have hM : ¬ M1 β i c0 b:=fun hm=>by
         have:=inv.wr.inj i j _ _ b hl hlj (m1_only hm) (by rw [h2]; rfl)
         subst this
         rw [hvi] at hv; cases hv
        have hds:=mapO_ss (R:=fun _ _=>True) (viewD_rp inv hl hvi n) g3 hm
        refine .ptr (cs_of_ds (b:=b) (o:=0) hM hds (fun k v hk=>?_))
        simp only [World.cell?,g2,Nat.zero_add]
        have hk' : us[k]? = some v:=by simpa using hk
        simp [hk']
       | _=>cases hx
    · cases hz
  · cases hv : allIn vs x.hnd with
    | false=>rw [hv] at hz; cases hz
    | true =>
     rw [hv,cond_true] at hz
     exact toD_m1 inv hl hvi hr hv hz
theorem mapS_ss {w : World} {f : SV → Option SV} {F F' : Nat → Prop} {β : Nat → Value} {s s' : St} (h : ∀ x d u,Rp w F β s (.s x u) → f x = some d → Rp w F' β s' (.s d u)) : ∀ {l : List SV} {ds : List SV} {us : List Value},Rp w F β s (.ss l us) → mapO f l = some ds → Rp w F' β s' (.ss ds us)
 | [],ds,us,hr,hd=>by
  unfold mapO at hd; cases hd; cases hr; exact .ssn
 | x :: l,ds,us,hr,hd=>by
  unfold mapO at hd
  cases hx : f x with
  | none=>rw [hx] at hd; cases hd
  | some d =>
   cases hm : mapO f l with
   | none=>rw [hx,hm] at hd; cases hd
   | some r =>
    rw [hx,hm] at hd
    simp only [Option.some.injEq] at hd
    subst hd
    cases hr with
    | ssc h1 h2=>exact .ssc (h x d _ h1 hx) (mapS_ss h h2 hm)
theorem viewS_rp (inv : InvB C β e s a w) (hl : lk i s = some (.cells c0)) (hvi : inX vs i = false) : ∀ (n : Nat) (x y : SV) (u : Value),Rp w C.F β s (.s x u) → viewS vs s n x = some y → Rp w (fun _=>False) β [(i,.cells c0)] (.s y u)
 | 0,x,z,u,hr,hz=>by cases hz
 | n + 1, x,z,u,hr,hz=>by
  unfold viewS at hz
  split at hz
  · rename_i j o
    split at hz
    · rename_i cs hlj
      cases hv : inX vs j with
      | false=>rw [hv] at hz; cases hz
      | true =>
       rw [hv,cond_true] at hz
       obtain ⟨ds,hm,rfl⟩:=Option.map_eq_some_iff.1 hz
       generalize hx : SV.ref j o = X at hr
       cases hr with
       | @ref i' o' b cs' h1 h2 =>
        cases hx
        rw [hlj] at h1
        cases h1
        obtain ⟨bb,t,us,g1,g2,g3,g4⟩:=inv.wr.boxes j _ hlj
        rw [h2] at g1
        obtain rfl : b = bb:=by simpa using g1
        have hM : ¬ M1 β i c0 b:=fun hm=>by
         have:=inv.wr.inj i j _ _ b hl hlj (m1_only hm) (by rw [h2]; rfl)
         subst this
         rw [hvi] at hv; cases hv
        have hds:=mapO_ss (R:=fun _ _=>True) (viewD_rp inv hl hvi n) g3 hm
        have:=Rp.fptr (F:=fun _=>False) (β := β) (s:=[(i,.cells c0)]) (x:=.agg ds) (off:=o) (cs_of_ds (b:=b) (o:=0) hM hds (fun k v hk=>by
         simp only [World.cell?,g2,Nat.zero_add]
         have hk' : us[k]? = some v:=by simpa using hk
         simp [hk']))
        rw [Nat.zero_add] at this
        exact this
       | _=>cases hx
    · cases hz
  · rename_i f cs
    obtain ⟨ds,hm,rfl⟩:=Option.map_eq_some_iff.1 hz
    generalize hx : SV.clo f cs = X at hr
    cases hr with
    | clo h=>cases hx; exact .clo (mapS_ss (viewS_rp inv hl hvi n) h hm)
    | _=>cases hx
  · rename_i y o
    cases hz
    generalize hx : SV.fptr y o = X at hr
    cases hr with
    | fptr h=>cases hx; exact .fptr (h.keep (fun _ _ _=>rfl) (fun b _ hm=>m1_sub hl b hm))
    | _=>cases hx
  · cases hv : allIn vs x.hnd with
    | false=>rw [hv] at hz; cases hz
    | true =>
     rw [hv,cond_true] at hz
     obtain ⟨d,hd,rfl⟩:=Option.map_eq_some_iff.1 hz
     exact .d (toD_m1 inv hl hvi hr hv hd)
theorem wArg_rp (inv : InvB C β e s a w) (hl : lk i s = some (.cells c0)) (hvi : inX vs i = false) {x y : SV} {u : Value} (hr : Rp w C.F β s (.s x u)) (hz : wArg vs s i x = some y) : Rp w (fun _=>False) β [(i,.cells c0)] (.s y u):=by
 unfold wArg at hz
 split at hz
 · rename_i j o
   cases hb : Nat.beq j i with
   | false=>rw [hb] at hz; exact viewS_rp inv hl hvi _ _ _ _ hr hz
   | true =>
    rw [hb,cond_true] at hz
    obtain rfl:=Nat.eq_of_beq_eq_true hb
    cases hz
    generalize hx : SV.ref j o = X at hr
    cases hr with
    | ref h1 h2 =>
     cases hx
     exact .ref (lk_cons_same _ _ _) h2
    | _=>cases hx
 · exact viewS_rp inv hl hvi _ _ _ _ hr hz
def flatS : List SV → Bool
 | []=>true
 | .d (.v _) :: l=>flatS l
 | _ :: _=>false
theorem flatS_rp {w w' : World} {F F' : Nat → Prop} {β β' : Nat → Value} {s s' : St} : ∀ {l : List SV} {us : List Value},flatS l = true → Rp w F β s (.ss l us) → Rp w' F' β' s' (.ss l us)
 | [],us,hf,h=>by cases h; exact .ssn
 | x :: l,us,hf,h=>by
  unfold flatS at hf
  split at hf
  · rename_i hq; cases hq
  · rename_i u l' hxl
    cases hxl
    cases h with
    | ssc h1 h2 =>
     cases h1 with
     | d h1=>cases h1 with
      | v _ h1=>exact .ssc (.d (.v _ h1)) (flatS_rp hf h2)
  · cases hf
theorem callW_core {ok : Ending → Value → Prop} (inv : InvB C β e s a w) (hl : lk i s = some (.cells c0)) (hvi : inX vs i = false) (hc0 : hins [(i,.cells c0)] c0) {xs as : List SV} {us : List Value} (hargs : Rp w C.F β s (.ss xs us)) (ha : mapO (wArg vs s i) xs = some as) {cs : List SV} {ret : SV} (hcs : flatS cs = true) (hret : flatS [ret] = true ∨ ret = .junk) {f : FuncId} (hf : GFn ok P Γ f as [(i,.cells c0)] ret [(i,.cells cs)]) :
 Calls P f us.toArray w fun en w' => ∃ v,ok en v ∧ InvB C β e (put i (.cells cs) s) a w' ∧ Rp w' C.F β (put i (.cells cs) s) (.s ret v):=by
 have hb0:=inv.wr.boxes i _ hl
 have h1 : ∀ j bx,lk j [(i,Box.cells c0)] = some bx → j = i ∧ bx = .cells c0:=fun j bx h=>by
  unfold lk at h
  by_cases hji : j = i
  · subst hji; rw [beq_self,cond_true] at h; cases h; exact ⟨rfl,rfl⟩
  · rw [beq_ne hji,cond_false] at h; cases h
 have hW : WR (fun _=>False) β [(i,.cells c0)] w:=by
  refine ⟨fun j bx h=>?_,fun j k b1 b2 b g1 g2 _ _=>(h1 j b1 g1).1.trans (h1 k b2 g2).1.symm,fun _ _ _ _ _ h=>h,fun b h=>h.elim⟩
  obtain ⟨rfl,rfl⟩:=h1 j bx h
  obtain ⟨bb,t,us',g1,g2,g3,g4⟩:=hb0
  exact ⟨bb,t,us',g1,g2,Rp.map (m1_sub hl) (fun k bx hk hi=>by
   obtain ⟨b2,h2⟩:=Option.isSome_iff_exists.1 hi
   obtain ⟨rfl,rfl⟩:=h1 k b2 h2
   rw [hl] at hk; cases hk
   exact ⟨h2,rfl⟩) g3 hc0,g4⟩
 refine (hf.2 (fun _=>False) β w us inv.glob inv.big hW (fun b h=>h.elim) (fun j bx b h hb=>by
  obtain ⟨rfl,rfl⟩:=h1 j bx h
  exact inv.base j _ b hl hb) (mapS_ss (fun x d u=>wArg_rp inv hl hvi) hargs ha)).mono ?_
 rintro en w' ⟨v, β1,hok,hW',hr',hsince,hG',hbase'⟩
 have hβ : β1 i = β i:=hsince.cells i c0 cs (lk_cons_same _ _ _) (lk_cons_same _ _ _)
 have hsz:=hsince.size
 have hblk : ∀ b,b < w.heap.size → blk (β i) ≠ some b → w'.heap[b]? = w.heap[b]? := fun b hb hne=>hsince.heap b hb (fun j bx h=>by
  obtain ⟨rfl,rfl⟩:=h1 j bx h
  exact hne)
 have hput : ∀ j,lk j (put i (.cells cs) s) = if j = i then some (.cells cs) else lk j s:=fun j=>by
  by_cases hji : j = i
  · subst hji; rw [if_pos rfl,lk_put_same]
  · rw [if_neg hji,lk_put_ne _ hji]
 have hback : ∀ j bx,lk j (put i (.cells cs) s) = some bx → ∃ bo,lk j s = some bo:=fun j bx h=>by
  rw [hput] at h
  split at h
  · rename_i hji; subst hji; exact ⟨_,hl⟩
  · exact ⟨_,h⟩
 have hx : Ext (fun _=>false) C.F w β s w' β (put i (.cells cs) s):=by
  refine ⟨fun b hb hm=>hblk b hb (fun h=>hm (.inr ⟨i,_,hl,h⟩)),fun b hb hm=>?_,fun j cs' _ h=>⟨rfl,?_⟩,fun j k L _ h=>⟨rfl,L,?_,Nat.le_refl _⟩,fun j M _ h=>⟨rfl,M,?_⟩⟩
  · rcases hm with hm | ⟨j,bx,g1,g2⟩
    · exact .inl hm
    · obtain ⟨bo,g3⟩:=hback j bx g1
      exact .inr ⟨j,bo,g3,g2⟩
  · rw [hput]
    split
    · exact ⟨_,rfl⟩
    · exact ⟨_,h⟩
  · rw [hput,if_neg (fun hji=>by subst hji; rw [hl] at h; cases h)]; exact h
  · rw [hput,if_neg (fun hji=>by subst hji; rw [hl] at h; cases h)]; exact h
 have hwr : WR C.F β (put i (.cells cs) s) w':=by
  refine ⟨fun j bx h=>?_,fun j k b1 b2 b g1 g2 g3 g4=>?_,fun j bx b h hb=>?_,fun b h=>Nat.lt_of_lt_of_le (inv.wr.low b h) hsz⟩
  · rw [hput] at h
    split at h
    · rename_i hji
      subst hji
      cases h
      obtain ⟨bb,t,us',g1,g2,g3,g4⟩:=hW'.boxes j _ (lk_cons_same _ _ _)
      exact ⟨bb,t,us',hβ.symm.trans g1,g2,flatS_rp hcs g3,g4⟩
    · rename_i hji
      refine BoxR.keep hx rfl (fun b hb=>hblk b ((inv.wr.boxes j bx h).blk_lt hb) (fun h2=>hji ?_)) (inv.wr.boxes j bx h)
      exact inv.wr.inj j i _ _ b h hl hb h2
  · obtain ⟨c1,k1⟩:=hback j b1 g1
    obtain ⟨c2,k2⟩:=hback k b2 g2
    exact inv.wr.inj j k c1 c2 b k1 k2 g3 g4
  · obtain ⟨c1,k1⟩:=hback j bx h
    exact inv.wr.apart j c1 b k1 hb
 have hrr : Rp w' C.F β (put i (.cells cs) s) (.s ret v):=by
  rcases hret with hret | rfl
  · have:=flatS_rp (w':=w') (F':=C.F) (β' := β) (s':=put i (.cells cs) s) hret (.ssc hr' .ssn)
    cases this with
    | ssc h _=>exact h
  · exact .junk
 refine ⟨v,hok,inv.step0 hx hwr ⟨hsince.os.trans inv.since.os,hsince.tape.trans inv.since.tape,hsince.output.trans inv.since.output,Nat.le_trans inv.since.size hsz,fun b hb h=>?_,fun j bx b h hb=>?_,fun j c1 c2 h h2=>?_,fun j bx h=>?_⟩ hsz (fun b hb=>hblk b (Nat.lt_of_lt_of_le hb inv.big) (fun h2=>by have:=inv.base i _ b hl h2; omega)) (fun j bx b h hb=>?_),hrr⟩
 · rw [hblk b (Nat.lt_of_lt_of_le hb inv.since.size) (fun h2=>by
    rcases inv.since.boxes i _ b hl h2 with h3 | ⟨k,bk,k1,k2⟩
    · omega
    · exact h k bk k1 k2)]
   exact inv.since.heap b hb h
 · obtain ⟨c1,k1⟩:=hback j bx h
   exact inv.since.boxes j c1 b k1 hb
 · rw [hput] at h2
   split at h2
   · rename_i hji
     subst hji
     cases h2
     exact inv.since.cells j c1 c0 h hl
   · exact inv.since.cells j c1 c2 h h2
 · rw [hput]
   split
   · simp
   · exact inv.since.keep j bx h
 · obtain ⟨c1,k1⟩:=hback j bx h
   exact inv.base j c1 b k1 hb
end
end Go.Sw
namespace Go.Sw
open Go.RowKit
section
variable {P : Program} {N : Nat} {Γ : Gl} {C : Cx P N Γ}
variable {ops : List Oper} {R : Nat → Rec} {D D' : Nat → Bool} {e0 : Env} {s0 : St} {base : Nat}

def bArgs (s : St) (i : Nat) : List SV → Option (List SV)
 | []=>some []
 | x :: l=>match x with
  | .ref j o=>bif Nat.beq j i then (bArgs s i l).map (SV.ref j o :: ·) else none
  | x=>match SV.toD s x with
   | some d=>(bArgs s i l).map (SV.d d :: ·)
   | none=>none
def hasR (i : Nat) : List SV → Bool
 | []=>false
 | x :: l=>match x with
  | .ref j _=>bif Nat.beq j i then true else hasR i l
  | _=>hasR i l
theorem hasR_mem {i : Nat} : ∀ {l : List SV},hasR i l = true → i ∈ SV.hnds l
 | x :: l,h=>by
  simp only [SV.hnds,List.mem_append]
  unfold hasR at h
  split at h
  · rename_i j o
    cases hb : Nat.beq j i with
    | true=>have:=Nat.eq_of_beq_eq_true hb; subst this; exact .inl (by simp [SV.hnd])
    | false=>rw [hb,cond_false] at h; exact .inr (hasR_mem h)
  · exact .inr (hasR_mem h)
theorem bArgs_lat {s s' : St} {i : Nat} : ∀ {l as : List SV},(∀ b ∈ SV.hnds l, ∀ B,lk b s = some B → lk b s' = some B) → bArgs s i l = some as → bArgs s' i l = some as
 | [],as,_,h=>h
 | x :: l,as,hs,h=>by
  have hs1 : SameH x s s':=fun b hb=>hs b (by simp only [SV.hnds,List.mem_append]; exact .inl hb)
  have hs2 : ∀ b ∈ SV.hnds l, ∀ B,lk b s = some B → lk b s' = some B:=fun b hb=>hs b (by simp only [SV.hnds,List.mem_append]; exact .inr hb)
  unfold bArgs at h ⊢
  split at h
  · rename_i j o
    cases hb : Nat.beq j i with
    | false=>rw [hb] at h; cases h
    | true =>
     rw [hb] at h
     simp only [cond_true] at h ⊢
     cases hr : bArgs s i l with
     | none=>rw [hr] at h; cases h
     | some r=>rw [hr] at h; rw [bArgs_lat hs2 hr]; exact h
  · rename_i hx
    cases hd : SV.toD s x with
    | none=>rw [hd] at h; cases h
    | some d =>
     rw [hd] at h
     simp only at h
     rw [toD_lat hs1 hd]
     simp only
     cases hr : bArgs s i l with
     | none=>rw [hr] at h; cases h
     | some r=>rw [hr] at h; rw [bArgs_lat hs2 hr]; exact h
theorem bArgs_argF {sc : St} {i : Nat} {bx : Box} : ∀ {l as : List SV},bArgs sc i l = some as → SV.ownss l = [] → argF sc [(i,bx)] l as
 | [],as,h,_=>by
  simp only [bArgs,Option.some.injEq] at h
  subst h; trivial
 | x :: l,as,h,ho=>by
  simp only [SV.ownss,List.append_eq_nil_iff] at ho
  unfold bArgs at h
  split at h
  · rename_i j o
    cases hb : Nat.beq j i with
    | false=>rw [hb] at h; cases h
    | true =>
     rw [hb] at h
     simp only [cond_true] at h
     obtain ⟨r,h1,rfl⟩:=Option.map_eq_some_iff.1 h
     have:=Nat.eq_of_beq_eq_true hb
     subst this
     exact ⟨⟨rfl,by simp [hin,lk]⟩,bArgs_argF h1 ho.2⟩
  · cases hd : SV.toD sc x with
    | none=>rw [hd] at h; cases h
    | some d =>
     rw [hd] at h
     obtain ⟨r,h1,rfl⟩:=Option.map_eq_some_iff.1 h
     exact ⟨⟨hd,ho.1⟩,bArgs_argF h1 ho.2⟩
def callB (P : Program) (Γ : Gl) (g : Bool) (i : Nat) (cs : List SV) (ret : Go.Sw.D) (op : Op) (e : Env) (s : St) : Option Prop :=
 match op with
 | .call c=>match c.callee with
  | .value (.func f)=>match lk i s with
   | some (.cells c0)=>match bArgs s i (opns (vals e c.args.toList)) with
    | some as=>some (g = true ∧ oks true (vals e c.args.toList) ∧ SV.ownss (opns (vals e c.args.toList)) = [] ∧ hasR i (opns (vals e c.args.toList)) = true ∧ hins [(i,.cells c0)] c0 ∧ SFn P Γ f as [(i,.cells c0)] (.d ret) [(i,.cells cs)])
    | none=>none
   | _=>none
  | _=>none
 | _=>none
def callP (P : Program) (Γ : Gl) (i : Nat) (cs : List SV) (u : Value) (op : Op) (e : Env) (s : St) : Option Prop :=
 match op with
 | .call c=>match c.callee with
  | .value (.func f)=>match lk i s with
   | some (.cells c0)=>match bArgs s i (opns (vals e c.args.toList)) with
    | some as=>some (oks true (vals e c.args.toList) ∧ SV.ownss (opns (vals e c.args.toList)) = [] ∧ hasR i (opns (vals e c.args.toList)) = true ∧ hins [(i,.cells c0)] c0 ∧ XFn P Γ f as [(i,.cells c0)] u [(i,.cells cs)])
    | none=>none
   | _=>none
  | _=>none
 | _=>none
theorem lk_mrg1 {i : Nat} {b : Box} {s : St} (j : Nat) : lk j (put i b s) = lk j (mrg [(i,b)] (jkS (inX (rowsOf [])) s)):=by
 have hX : (inX (rowsOf [])) = fun _=>false:=by funext i; rfl
 rw [hX]
 simp only [mrg]
 rw [lk_put,lk_put,lk_jkS]
 split
 · rfl
 · cases lk j s with
   | none=>rfl
   | some b=>simp [bjk_none]
theorem callB_ok {i : Nat} {cs : List SV} {ret : Go.Sw.D} {o : Oper} {e e' : Env} {s s' : St} {p : Prop} (ho : o.op.operands.toList.all opdOK = true) (hv : ∀ y ∈ o.op.operands.toList,val e' y = val e y) (hs : ∀ b ∈ hndO e o.op,lk b s' = lk b s)
 (h : callB P Γ true i cs ret o.op e s = some p) (hp : p) {β : Nat → Value} {a : Act} {w : World} (inv : InvB C β e' s' a w)
 (K : Act → World → Prop) (Q : Exit → Act → World → Prop) (hK : ∀ β' v w',InvB C β' e' (put i (.cells cs) s') a w' → Rp w' C.F β' (put i (.cells cs) s') (.s (.d ret) v) → K (a.put o.dst v) w') : o.wp P a w K Q:=by
 obtain ⟨dst,op,ty,pos,af,gd⟩:=o
 cases op with
 | call c =>
  obtain ⟨cl,args,ats⟩:=c
  simp only [callB] at h
  cases cl with
  | value y =>
   cases y with
   | func f =>
    simp only [hndO,Op.operands,Call.operands] at h hv hs
    have hva : vals e' args.toList = vals e args.toList:=vals_env fun z hz=>hv z (by simp at hz ⊢; exact .inr hz)
    split at h
    · rename_i c0 hc0
      split at h
      · rename_i as has
        simp only [Option.some.injEq] at h
        subst h
        obtain ⟨-,h1,h2,h5,h6,h3⟩:=hp
        have hhn : ∀ b ∈ SV.hnds (opns (vals e args.toList)),lk b s' = lk b s:=fun b hb=>hs b (by
         obtain ⟨y,hy,hb'⟩:=hnds_vals hb
         exact hnds_mem (by simp at hy ⊢; exact .inr hy) hb')
        have hc0' : lk i s' = some (.cells c0):=by rw [hhn i (hasR_mem h5)]; exact hc0
        have has' : bArgs s' i (opns (vals e' args.toList)) = some as:=by
         rw [hva]
         exact bArgs_lat (fun b hb B hB=>by rw [hhn b hb]; exact hB) has
        rw [← hva] at h1 h2
        have ha : args.toList.all opdOK = true:=by
         simp only [Op.operands,Call.operands,Array.toList_append,List.all_append,Bool.and_eq_true] at ho
         exact ho.2
        unfold Oper.wp
        rw [run_call h3.1]
        refine (callS_ok inv (s:=[(i,.cells c0)]) ⟨by rw [hc0'],trivial⟩ ⟨h6,trivial⟩ (show sameD s' [(i,.cells c0)] [(i,.cells cs)] from ⟨rfl,trivial⟩) (oks_rp inv args.toList ha h1) (bArgs_argF has' h2) h3).mono ?_
        rintro en w' ⟨v, β',rfl,inv',hr⟩
        have inv2:=inv'.same lk_mrg1
        refine hK β' v w' (inv2.withEnv inv2.size inv2.defers fun t x hx=>inv2.env t x ?_) (Rp.keep0 (ext_same lk_mrg1) hr)
        rw [lk_jkE,hx]
        have hX : (inX (rowsOf [(i,Box.cells c0)])) = fun _=>false:=by funext i; rfl
        rw [hX]
        simp [SV.jk_none]
      · cases h
    · cases h
   | _=>cases h
  | _=>cases h
 | _=>cases h
theorem callP_ok {i : Nat} {cs : List SV} {u : Value} {o : Oper} {e e' : Env} {s s' : St} {p : Prop} (ho : o.op.operands.toList.all opdOK = true) (hv : ∀ y ∈ o.op.operands.toList,val e' y = val e y) (hs : ∀ b ∈ hndO e o.op,lk b s' = lk b s)
 (h : callP P Γ i cs u o.op e s = some p) (hp : p) {β : Nat → Value} {a : Act} {w : World} (inv : InvB C β e' s' a w)
 (K : Act → World → Prop) (Q : Exit → Act → World → Prop) (hQ : ∀ β' w',InvB C β' e' (put i (.cells cs) s') a w' → Q (.panic (chainOf u)) a w') : o.wp P a w K Q:=by
 obtain ⟨dst,op,ty,pos,af,gd⟩:=o
 cases op with
 | call c =>
  obtain ⟨cl,args,ats⟩:=c
  simp only [callP] at h
  cases cl with
  | value y =>
   cases y with
   | func f =>
    simp only [hndO,Op.operands,Call.operands] at h hv hs
    have hva : vals e' args.toList = vals e args.toList:=vals_env fun z hz=>hv z (by simp at hz ⊢; exact .inr hz)
    split at h
    · rename_i c0 hc0
      split at h
      · rename_i as has
        simp only [Option.some.injEq] at h
        subst h
        obtain ⟨h1,h2,h5,h6,h3⟩:=hp
        have hhn : ∀ b ∈ SV.hnds (opns (vals e args.toList)),lk b s' = lk b s:=fun b hb=>hs b (by
         obtain ⟨y,hy,hb'⟩:=hnds_vals hb
         exact hnds_mem (by simp at hy ⊢; exact .inr hy) hb')
        have hc0' : lk i s' = some (.cells c0):=by rw [hhn i (hasR_mem h5)]; exact hc0
        have has' : bArgs s' i (opns (vals e' args.toList)) = some as:=by
         rw [hva]
         exact bArgs_lat (fun b hb B hB=>by rw [hhn b hb]; exact hB) has
        rw [← hva] at h1 h2
        have ha : args.toList.all opdOK = true:=by
         simp only [Op.operands,Call.operands,Array.toList_append,List.all_append,Bool.and_eq_true] at ho
         exact ho.2
        unfold Oper.wp
        rw [run_call h3.1]
        refine (callG_ok inv (s:=[(i,.cells c0)]) ⟨by rw [hc0'],trivial⟩ ⟨h6,trivial⟩ (show sameD s' [(i,.cells c0)] [(i,.cells cs)] from ⟨rfl,trivial⟩) (oks_rp inv args.toList ha h1) (bArgs_argF has' h2) h3).mono ?_
        rintro en w' ⟨v, β',rfl,inv',hr⟩
        have inv2:=inv'.same lk_mrg1
        refine hQ β' w' (inv2.withEnv inv2.size inv2.defers fun t x hx=>inv2.env t x ?_)
        rw [lk_jkE,hx]
        have hX : (inX (rowsOf [(i,Box.cells c0)])) = fun _=>false:=by funext i; rfl
        rw [hX]
        simp [SV.jk_none]
      · cases h
    · cases h
   | _=>cases h
  | _=>cases h
 | _=>cases h

def callW (P : Program) (Γ : Gl) (g : Bool) (i : Nat) (cs : List SV) (ret : Go.Sw.D) (vs : List Nat) (op : Op) (e : Env) (s : St) : Option Prop :=
 match op with
 | .call c=>match c.callee with
  | .value (.func f)=>match lk i s with
   | some (.cells c0)=>match mapO (wArg vs s i) (opns (vals e c.args.toList)) with
    | some as=>some (g = true ∧ oks true (vals e c.args.toList) ∧ hasR i (opns (vals e c.args.toList)) = true ∧ inX vs i = false ∧ flatS cs = true ∧ flatS [.d ret] = true ∧ hins [(i,.cells c0)] c0 ∧ SFn P Γ f as [(i,.cells c0)] (.d ret) [(i,.cells cs)])
    | none=>none
   | _=>none
  | _=>none
 | _=>none
def callWP (P : Program) (Γ : Gl) (i : Nat) (cs : List SV) (u : Value) (vs : List Nat) (op : Op) (e : Env) (s : St) : Option Prop :=
 match op with
 | .call c=>match c.callee with
  | .value (.func f)=>match lk i s with
   | some (.cells c0)=>match mapO (wArg vs s i) (opns (vals e c.args.toList)) with
    | some as=>some (oks true (vals e c.args.toList) ∧ hasR i (opns (vals e c.args.toList)) = true ∧ inX vs i = false ∧ flatS cs = true ∧ hins [(i,.cells c0)] c0 ∧ XFn P Γ f as [(i,.cells c0)] u [(i,.cells cs)])
    | none=>none
   | _=>none
  | _=>none
 | _=>none
theorem mem_inX {b : Nat} : ∀ {vs : List Nat},inX vs b = true → b ∈ vs
 | j :: l,h=>by
  unfold inX at h
  cases hb : Nat.beq b j with
  | true=>have:=Nat.eq_of_beq_eq_true hb; subst this; exact List.mem_cons_self
  | false=>rw [hb,cond_false] at h; exact List.mem_cons_of_mem _ (mem_inX h)
theorem callW_ok {i : Nat} {cs : List SV} {ret : Go.Sw.D} {vs : List Nat} {o : Oper} {e e' : Env} {s s' : St} {p : Prop} (ho : o.op.operands.toList.all opdOK = true) (hv : ∀ y ∈ o.op.operands.toList,val e' y = val e y) (hs : ∀ b ∈ hndO e o.op ++ vs,lk b s' = lk b s)
 (h : callW P Γ true i cs ret vs o.op e s = some p) (hp : p) {β : Nat → Value} {a : Act} {w : World} (inv : InvB C β e' s' a w)
 (K : Act → World → Prop) (Q : Exit → Act → World → Prop) (hK : ∀ β' v w',InvB C β' e' (put i (.cells cs) s') a w' → Rp w' C.F β' (put i (.cells cs) s') (.s (.d ret) v) → K (a.put o.dst v) w') : o.wp P a w K Q:=by
 obtain ⟨dst,op,ty,pos,af,gd⟩:=o
 cases op with
 | call c =>
  obtain ⟨cl,args,ats⟩:=c
  simp only [callW] at h
  cases cl with
  | value y =>
   cases y with
   | func f =>
    simp only [hndO,Op.operands,Call.operands] at h hv hs
    have hva : vals e' args.toList = vals e args.toList:=vals_env fun z hz=>hv z (by simp at hz ⊢; exact .inr hz)
    split at h
    · rename_i c0 hc0
      split at h
      · rename_i as has
        simp only [Option.some.injEq] at h
        subst h
        obtain ⟨-,h1,h5,hvi,hf1,hf2,h6,h3⟩:=hp
        have hhn : ∀ b ∈ SV.hnds (opns (vals e args.toList)),lk b s' = lk b s:=fun b hb=>hs b (by
         obtain ⟨y,hy,hb'⟩:=hnds_vals hb
         exact List.mem_append.2 (.inl (hnds_mem (by simp at hy ⊢; exact .inr hy) hb')))
        have hc0' : lk i s' = some (.cells c0):=by rw [hhn i (hasR_mem h5)]; exact hc0
        have has' : mapO (wArg vs s' i) (opns (vals e' args.toList)) = some as:=by
         rw [hva]
         exact mapO_lat (fun x d hd=>wArg_lat (fun b hb=>hs b (List.mem_append.2 (.inr (mem_inX hb)))) hd) has
        rw [← hva] at h1
        have ha : args.toList.all opdOK = true:=by
         simp only [Op.operands,Call.operands,Array.toList_append,List.all_append,Bool.and_eq_true] at ho
         exact ho.2
        unfold Oper.wp
        rw [run_call h3.1]
        refine (callW_core (ok:=fun e v=>e = .returned v) inv hc0' hvi h6 (oks_rp inv args.toList ha h1) has' hf1 (.inl hf2) ⟨h3.1,fun F β w us q1 q2 q3 q4 q5 q6=>(h3.2 F β w us q1 q2 q3 q4 q5 q6).mono fun en w' ⟨v, β',r1,r2⟩=>⟨v, β',r1,r2⟩⟩).mono ?_
        rintro en w' ⟨v,rfl,inv',hr⟩
        exact hK β v w' inv' hr
      · cases h
    · cases h
   | _=>cases h
  | _=>cases h
 | _=>cases h
theorem callWP_ok {i : Nat} {cs : List SV} {u : Value} {vs : List Nat} {o : Oper} {e e' : Env} {s s' : St} {p : Prop} (ho : o.op.operands.toList.all opdOK = true) (hv : ∀ y ∈ o.op.operands.toList,val e' y = val e y) (hs : ∀ b ∈ hndO e o.op ++ vs,lk b s' = lk b s)
 (h : callWP P Γ i cs u vs o.op e s = some p) (hp : p) {β : Nat → Value} {a : Act} {w : World} (inv : InvB C β e' s' a w)
 (K : Act → World → Prop) (Q : Exit → Act → World → Prop) (hQ : ∀ β' w',InvB C β' e' (put i (.cells cs) s') a w' → Q (.panic (chainOf u)) a w') : o.wp P a w K Q:=by
 obtain ⟨dst,op,ty,pos,af,gd⟩:=o
 cases op with
 | call c =>
  obtain ⟨cl,args,ats⟩:=c
  simp only [callWP] at h
  cases cl with
  | value y =>
   cases y with
   | func f =>
    simp only [hndO,Op.operands,Call.operands] at h hv hs
    have hva : vals e' args.toList = vals e args.toList:=vals_env fun z hz=>hv z (by simp at hz ⊢; exact .inr hz)
    split at h
    · rename_i c0 hc0
      split at h
      · rename_i as has
        simp only [Option.some.injEq] at h
        subst h
        obtain ⟨h1,h5,hvi,hf1,h6,h3⟩:=hp
        have hhn : ∀ b ∈ SV.hnds (opns (vals e args.toList)),lk b s' = lk b s:=fun b hb=>hs b (by
         obtain ⟨y,hy,hb'⟩:=hnds_vals hb
         exact List.mem_append.2 (.inl (hnds_mem (by simp at hy ⊢; exact .inr hy) hb')))
        have hc0' : lk i s' = some (.cells c0):=by rw [hhn i (hasR_mem h5)]; exact hc0
        have has' : mapO (wArg vs s' i) (opns (vals e' args.toList)) = some as:=by
         rw [hva]
         exact mapO_lat (fun x d hd=>wArg_lat (fun b hb=>hs b (List.mem_append.2 (.inr (mem_inX hb)))) hd) has
        rw [← hva] at h1
        have ha : args.toList.all opdOK = true:=by
         simp only [Op.operands,Call.operands,Array.toList_append,List.all_append,Bool.and_eq_true] at ho
         exact ho.2
        unfold Oper.wp
        rw [run_call h3.1]
        refine (callW_core inv hc0' hvi h6 (oks_rp inv args.toList ha h1) has' hf1 (.inr rfl) h3).mono ?_
        rintro en w' ⟨v,rfl,inv',hr⟩
        exact hQ β w' inv'
      · cases h
    · cases h
   | _=>cases h
  | _=>cases h
 | _=>cases h

mutual
def SV.calm : SV → Bool
 | .fptr _ _=>true
 | .clo _ cs=>SV.calms cs
 | .d _=>true
 | _=>false
def SV.calms : List SV → Bool
 | []=>true
 | x :: l=>SV.calm x && SV.calms l
end
mutual
theorem calm_hin {s : St} : ∀ {x : SV},x.calm = true → hin s x
 | .fptr _ _,_=>by simp [hin]
 | .d _,_=>by simp [hin]
 | .clo f cs,h=>by simp only [hin]; exact calms_hin (by simpa [SV.calm] using h)
 | .nil,h=>by simp [SV.calm] at h
 | .agg _,h=>by simp [SV.calm] at h
 | .tup _,h=>by simp [SV.calm] at h
 | .ref _ _,h=>by simp [SV.calm] at h
 | .own _,h=>by simp [SV.calm] at h
 | .eref _ _ _,h=>by simp [SV.calm] at h
 | .sref _ _,h=>by simp [SV.calm] at h
 | .grd _ _,h=>by simp [SV.calm] at h
 | .junk,h=>by simp [SV.calm] at h
theorem calms_hin {s : St} : ∀ {l : List SV},SV.calms l = true → hins s l
 | [],_=>by simp [hins]
 | x :: l,h=>by
  simp only [SV.calms,Bool.and_eq_true] at h
  simp only [hins]
  exact ⟨calm_hin h.1,calms_hin h.2⟩
end
def mArgs (s : St) : List SV → Option (List SV)
 | []=>some []
 | x :: l=>match SV.toD s x with
  | some d=>(mArgs s l).map (SV.d d :: ·)
  | none=>bif x.calm then (mArgs s l).map (x :: ·) else none
theorem mArgs_lat {s s' : St} : ∀ {l as : List SV},(∀ b ∈ SV.hnds l, ∀ B,lk b s = some B → lk b s' = some B) → SV.ownss l = [] → mArgs s l = some as → mArgs s' l = some as
 | [],as,_,_,h=>h
 | x :: l, as,hs,ho,h=>by
  have hs1 : SameH x s s':=fun b hb=>hs b (by simp only [SV.hnds,List.mem_append]; exact .inl hb)
  have hs2 : ∀ b ∈ SV.hnds l, ∀ B,lk b s = some B → lk b s' = some B:=fun b hb=>hs b (by simp only [SV.hnds,List.mem_append]; exact .inr hb)
  simp only [SV.ownss,List.append_eq_nil_iff] at ho
  unfold mArgs at h ⊢
  cases hd : SV.toD s x with
  | some d =>
   rw [hd] at h
   simp only at h
   rw [toD_lat hs1 hd]
   simp only
   cases hr : mArgs s l with
   | none=>rw [hr] at h; cases h
   | some r=>rw [hr] at h; rw [mArgs_lat hs2 ho.2 hr]; exact h
  | none =>
   rw [hd] at h
   simp only at h
   cases hc : x.calm with
   | false=>rw [hc] at h; cases h
   | true =>
    rw [hc] at h
    have hd' : SV.toD s' x = none:=by
     cases x <;> first | rfl | (simp [SV.calm] at hc; done) | (simp [SV.toD] at hd; done)
    rw [hd']
    simp only [cond_true] at h ⊢
    cases hr : mArgs s l with
    | none=>rw [hr] at h; cases h
    | some r=>rw [hr] at h; rw [mArgs_lat hs2 ho.2 hr]; exact h
theorem mArgs_argF {sc : St} : ∀ {l as : List SV},mArgs sc l = some as → SV.ownss l = [] → argF sc [] l as
 | [],as,h,_=>by
  simp only [mArgs,Option.some.injEq] at h
  subst h; trivial
 | x :: l,as,h,ho=>by
  simp only [SV.ownss,List.append_eq_nil_iff] at ho
  unfold mArgs at h
  cases hd : SV.toD sc x with
  | some d =>
   rw [hd] at h
   obtain ⟨r,h1,rfl⟩:=Option.map_eq_some_iff.1 h
   exact ⟨⟨hd,ho.1⟩,mArgs_argF h1 ho.2⟩
  | none =>
   rw [hd] at h
   simp only at h
   cases hc : x.calm with
   | false=>rw [hc] at h; cases h
   | true =>
    rw [hc] at h
    obtain ⟨r,h1,rfl⟩:=Option.map_eq_some_iff.1 h
    refine ⟨?_,mArgs_argF h1 ho.2⟩
    cases x <;> first | exact ⟨rfl,calm_hin hc⟩ | (simp [SV.calm] at hc; done) | (simp [SV.toD] at hd; done)
def callM (P : Program) (Γ : Gl) (g : Bool) (ret : Go.Sw.D) (op : Op) (e : Env) (s : St) : Option Prop :=
 match op with
 | .call c=>match c.callee with
  | .value x=>match opn (val e x) with
   | .clo f caps=>match mArgs s (opns (vals e c.args.toList) ++ caps) with
    | some as=>some (g = true ∧ ok1 true (val e x) ∧ oks true (vals e c.args.toList) ∧ SV.ownss (opns (vals e c.args.toList) ++ caps) = [] ∧ SFn P Γ f as [] (.d ret) [])
    | none=>none
   | _=>none
  | _=>none
 | _=>none
theorem lk_mrg0 {s : St} (j : Nat) : lk j s = lk j (mrg [] (jkS (inX (rowsOf [])) s)):=by
 have hX : (inX (rowsOf [])) = fun _=>false:=by funext i; rfl
 rw [hX]
 simp only [mrg]
 rw [lk_jkS]
 cases lk j s with
 | none=>rfl
 | some b=>simp [bjk_none]
theorem hnds_app : ∀ {l l' : List SV},SV.hnds (l ++ l') = SV.hnds l ++ SV.hnds l'
 | [],l'=>rfl
 | x :: l,l'=>by simp only [List.cons_append,SV.hnds,hnds_app (l:=l),List.append_assoc]
theorem callM_ok {ret : Go.Sw.D} {o : Oper} {e e' : Env} {s s' : St} {p : Prop} (ho : o.op.operands.toList.all opdOK = true) (hv : ∀ y ∈ o.op.operands.toList,val e' y = val e y) (hs : ∀ b ∈ hndO e o.op,lk b s' = lk b s)
 (h : callM P Γ true ret o.op e s = some p) (hp : p) {β : Nat → Value} {a : Act} {w : World} (inv : InvB C β e' s' a w)
 (K : Act → World → Prop) (Q : Exit → Act → World → Prop) (hK : ∀ β' v w',InvB C β' e' s' a w' → Rp w' C.F β' s' (.s (.d ret) v) → K (a.put o.dst v) w') : o.wp P a w K Q:=by
 obtain ⟨dst,op,ty,pos,af,gd⟩:=o
 cases op with
 | call c =>
  obtain ⟨cl,args,ats⟩:=c
  simp only [callM] at h
  cases cl with
  | value y =>
   simp only [hndO,Op.operands,Call.operands] at h hv hs
   have hva : vals e' args.toList = vals e args.toList:=vals_env fun z hz=>hv z (by simp at hz ⊢; exact .inr hz)
   have hvy : val e' y = val e y:=hv y (by simp)
   split at h
   · rename_i f caps hf0
     split at h
     · rename_i as has
       simp only [Option.some.injEq] at h
       subst h
       obtain ⟨-,h0,h1,h2,h3⟩:=hp
       have hhn : ∀ b ∈ SV.hnds (opns (vals e args.toList) ++ caps),lk b s' = lk b s:=fun b hb=>hs b (by
        rw [hnds_app,List.mem_append] at hb
        rcases hb with hb | hb
        · obtain ⟨z,hz,hb'⟩:=hnds_vals hb
          exact hnds_mem (by simp at hz ⊢; exact .inr hz) hb'
        · exact hnds_mem (y:=y) (by simp) (by rw [hf0]; simpa [SV.hnd] using hb))
       have has' : mArgs s' (opns (vals e' args.toList) ++ caps) = some as:=by
        rw [hva]
        exact mArgs_lat (fun b hb B hB=>by rw [hhn b hb]; exact hB) h2 has
       rw [← hva] at h1 h2
       have ho' : opdOK y = true ∧ args.toList.all opdOK = true:=by
        simp only [Op.operands,Call.operands,Array.toList_append,List.all_append,Bool.and_eq_true] at ho
        exact ⟨by simpa using ho.1,ho.2⟩
       have hxr:=oks_rp inv [y] (by simp [ho'.1]) (by rw [← hvy] at h0; exact ⟨h0,trivial⟩)
       rw [← hvy] at hf0
       simp only [vals,opns,hf0,List.map_cons,List.map_nil] at hxr
       generalize hev : a.eval y = u at hxr
       cases hxr with
       | ssc hxr _ =>
        cases hxr with
        | @clo _ _ us hcs =>
         unfold Oper.wp
         rw [run_callC h3.1 a w hev]
         have hall:=Rp.ss_app (oks_rp inv args.toList ho'.2 h1) hcs
         refine (callS_ok inv (s:=[]) (show subC s' [] from trivial) (show hinB [] [] from trivial) (show sameD s' [] [] from trivial) hall (mArgs_argF has' h2) h3).mono ?_
         rintro en w' ⟨v, β',rfl,inv',hr⟩
         have inv2:=inv'.same lk_mrg0
         refine hK β' v w' (inv2.withEnv inv2.size inv2.defers fun t x hx=>inv2.env t x ?_) (Rp.keep0 (ext_same lk_mrg0) hr)
         rw [lk_jkE,hx]
         have hX : (inX (rowsOf [])) = fun _=>false:=by funext i; rfl
         rw [hX]
         simp [SV.jk_none]
     · cases h
   · cases h
  | _=>cases h
 | _=>cases h

def callN (P : Program) (Γ : Gl) (g : Bool) (nm k : Nat) (L : List Go.Sw.D) (op : Op) (e : Env) (s : St) : Option Prop :=
 match op with
 | .call c=>match c.callee with
  | .value x=>match opn (val e x) with
   | .clo f caps=>match mArgs s (opns (vals e c.args.toList) ++ caps) with
    | some as=>some (g = true ∧ ok1 true (val e x) ∧ oks true (vals e c.args.toList) ∧ SV.ownss (opns (vals e c.args.toList) ++ caps) = [] ∧ SFn P Γ f as [] (.own nm) [(nm,.row k L)])
    | none=>none
   | _=>none
  | _=>none
 | _=>none
theorem lk_mrgN {s : St} {nm : Nat} {B : Box} (j : Nat) : lk j ((nm,B) :: s) = lk j (mrg [(nm,B)] (jkS (inX (rowsOf [])) s)):=by
 have hX : (inX (rowsOf [])) = fun _=>false:=by funext i; rfl
 rw [hX]
 simp only [mrg]
 by_cases h : j = nm
 · subst h; rw [lk_put_same,lk_cons_same]
 · rw [lk_put_ne _ h,lk_cons_ne h,lk_jkS]
   cases lk j s with
   | none=>rfl
   | some b=>simp [bjk_none]
theorem callN_ok {nm k : Nat} {L : List Go.Sw.D} {o : Oper} {e e' : Env} {s s' : St} {p : Prop} (hn : lk nm s' = none) (ho : o.op.operands.toList.all opdOK = true) (hv : ∀ y ∈ o.op.operands.toList,val e' y = val e y) (hs : ∀ b ∈ hndO e o.op,lk b s' = lk b s)
 (h : callN P Γ true nm k L o.op e s = some p) (hp : p) {β : Nat → Value} {a : Act} {w : World} (inv : InvB C β e' s' a w)
 (K : Act → World → Prop) (Q : Exit → Act → World → Prop) (hK : ∀ β' v w',InvB C β' e' ((nm,.row k L) :: s') a w' → Rp w' C.F β' ((nm,.row k L) :: s') (.s (.own nm) v) → K (a.put o.dst v) w') : o.wp P a w K Q:=by
 obtain ⟨dst,op,ty,pos,af,gd⟩:=o
 cases op with
 | call c =>
  obtain ⟨cl,args,ats⟩:=c
  simp only [callN] at h
  cases cl with
  | value y =>
   simp only [hndO,Op.operands,Call.operands] at h hv hs
   have hva : vals e' args.toList = vals e args.toList:=vals_env fun z hz=>hv z (by simp at hz ⊢; exact .inr hz)
   have hvy : val e' y = val e y:=hv y (by simp)
   split at h
   · rename_i f caps hf0
     split at h
     · rename_i as has
       simp only [Option.some.injEq] at h
       subst h
       obtain ⟨-,h0,h1,h2,h3⟩:=hp
       have hhn : ∀ b ∈ SV.hnds (opns (vals e args.toList) ++ caps),lk b s' = lk b s:=fun b hb=>hs b (by
        rw [hnds_app,List.mem_append] at hb
        rcases hb with hb | hb
        · obtain ⟨z,hz,hb'⟩:=hnds_vals hb
          exact hnds_mem (by simp at hz ⊢; exact .inr hz) hb'
        · exact hnds_mem (y:=y) (by simp) (by rw [hf0]; simpa [SV.hnd] using hb))
       have has' : mArgs s' (opns (vals e' args.toList) ++ caps) = some as:=by
        rw [hva]
        exact mArgs_lat (fun b hb B hB=>by rw [hhn b hb]; exact hB) h2 has
       rw [← hva] at h1 h2
       have ho' : opdOK y = true ∧ args.toList.all opdOK = true:=by
        simp only [Op.operands,Call.operands,Array.toList_append,List.all_append,Bool.and_eq_true] at ho
        exact ⟨by simpa using ho.1,ho.2⟩
       have hxr:=oks_rp inv [y] (by simp [ho'.1]) (by rw [← hvy] at h0; exact ⟨h0,trivial⟩)
       rw [← hvy] at hf0
       simp only [vals,opns,hf0,List.map_cons,List.map_nil] at hxr
       generalize hev : a.eval y = u at hxr
       cases hxr with
       | ssc hxr _ =>
        cases hxr with
        | @clo _ _ us hcs =>
         unfold Oper.wp
         rw [run_callC h3.1 a w hev]
         have hall:=Rp.ss_app (oks_rp inv args.toList ho'.2 h1) hcs
         refine (callS_ok inv (s:=[]) (show subC s' [] from trivial) (show hinB [] [] from trivial) (show sameD s' [] [(nm,.row k L)] by simp [sameD,newS,hn]) hall (mArgs_argF has' h2) h3).mono ?_
         rintro en w' ⟨v, β',rfl,inv',hr⟩
         have inv2:=inv'.same lk_mrgN
         refine hK β' v w' (inv2.withEnv inv2.size inv2.defers fun t x hx=>inv2.env t x ?_) (Rp.keep0 (ext_same lk_mrgN) hr)
         rw [lk_jkE,hx]
         have hX : (inX (rowsOf [])) = fun _=>false:=by funext i; rfl
         rw [hX]
         simp [SV.jk_none]
     · cases h
   · cases h
  | _=>cases h
 | _=>cases h

def rngO (P : Program) (e : Env) : Op → Option (Nat × Nat × Nat)
 | .load t x=>match opn (val e x) with
  | .ref i off=>match szOf P t with
   | some (n + 1)=>some (i,off,n + 1)
   | _=>none
  | _=>none
 | .fieldAddr _ x _=>match opn (val e x) with
  | .ref i _=>some (i,0,0)
  | _=>none
 | .move x=>match opn (val e x) with
  | .ref i _=>some (i,0,0)
  | _=>none
 | .nilCheck x=>match opn (val e x) with
  | .ref i _=>some (i,0,0)
  | _=>none
 | _=>none
def hndX (P : Program) (e : Env) (op : Op) : List Nat:=match op with
 | .store _ x _=>(opn (val e x)).hnd
 | op=>match rngO P e op with
  | some (_,_,0)=>[]
  | _=>hndO e op
def isSt : Op → Bool
 | .store _ _ _=>true
 | _=>false
theorem hndX_none {P : Program} {e : Env} {op : Op} (h : rngO P e op = none) (hs : isSt op = false) : hndX P e op = hndO e op:=by
 cases op <;> first
  | (simp [isSt] at hs; done)
  | (simp only [hndX,h])
theorem hndX_some {P : Program} {e : Env} {op : Op} {i o n : Nat} (h : rngO P e op = some (i,o,n + 1)) : hndX P e op = hndO e op:=by
 cases op <;> first
  | (simp [rngO] at h; done)
  | (simp only [hndX,h])
def HX (P : Program) (xt : Nat → List Nat) (ops : List Oper) (R : Nat → Rec) (e0 : Env) (i : Nat) (oi : Oper) : List Nat:=hndX P (envD ops R yes e0 i) oi.op ++ xt i
def vw (r : Option (Nat × Nat × Nat)) (b : Nat) (B : Box) : Box:=match r with
 | some q=>match B with
  | .cells cs=>bif Nat.beq b q.1 then .cells ((cs.drop q.2.1).take q.2.2) else .cells cs
  | .row k L=>.row k L
  | .mp M=>.mp M
 | none=>B
theorem map_vw0 (b : Nat) (o : Option Box) : o.map (vw none b) = o:=by cases o <;> rfl
theorem jks_map (J : Nat → Bool) : ∀ l : List SV,SV.jks J l = l.map (SV.jk J)
 | []=>rfl
 | x :: l=>by simp only [SV.jks,List.map_cons,jks_map J l]
theorem vw_jk (r : Option (Nat × Nat × Nat)) (b : Nat) (B : Box) (J : Nat → Bool) : vw r b (B.jk J) = (vw r b B).jk J:=by
 cases r with
 | none=>rfl
 | some q =>
  cases B with
  | row k L=>rfl
  | mp M=>rfl
  | cells cs =>
   simp only [vw,Box.jk]
   cases Nat.beq b q.1 with
   | true=>simp only [cond_true,Box.jk,jks_map,List.map_take,List.map_drop]
   | false=>rfl
theorem load_vw {t : TypeId} {cs cs' : List SV} {off n : Nat} (hn : szOf P t = some (n + 1)) (hc : (cs.drop off).take (n + 1) = (cs'.drop off).take (n + 1)) {q : Prop × SV} (h : loadC P t (cs.drop off) = some q) (hq : q.1) : ∃ q',loadC P t (cs'.drop off) = some q' ∧ q'.2 = q.2 ∧ q'.1:=by
 unfold loadC at h ⊢
 rw [hn] at h ⊢
 have hlen:=congrArg List.length hc
 simp only [List.length_take] at hlen
 split at h
 · rename_i n' _ hs
   cases hs
   simp only [Option.some.injEq] at h
   subst h
   simp only at hq
   exact ⟨_,rfl,by simp only [hc],by show n + 1 ≤ _; omega⟩
 · rename_i n' _ hs
   cases hs
   cases h1 : cs.drop off with
   | nil=>rw [h1] at h; cases h
   | cons x l =>
    rw [h1] at h hc
    simp only [Option.some.injEq] at h
    subst h
    cases h2 : cs'.drop off with
    | nil=>rw [h2] at hc; cases hc
    | cons y l' =>
     rw [h2] at hc
     simp only [List.take_succ_cons,List.cons.injEq] at hc
     exact ⟨_,rfl,by simp only [hc.1],trivial⟩
 · cases h

structure IndQ (ops : List Oper) (R : Nat → Rec) (base : Nat) (e0 : Env) (s0 : St) (H : List Nat) (r : Option (Nat × Nat × Nat)) (i j : Nat) (oi oj : Oper) : Prop where
 p : IndP ops R base e0 s0 [] i j oi oj
 e : ∀ b,(R j).F.tgt (base + j) = some b → b ∉ H
 h : ∀ b ∈ H, ∀ B,lk b s0 = some B → (vw r b B).jk (R j).F.junks = vw r b B
 k : ∀ m om b,ops[m]? = some om → (R m).F.tgt (base + m) = some b → b ∈ H → ∀ B,(R m).F.box = some B → (vw r b B).jk (R j).F.junks = vw r b B
def freW (k : Nat) (r : Option (Nat × Nat × Nat)) (b : Nat) : Option Box → Bool
 | some B=>(vw r b B).fre k
 | none=>true
def indQ (ops : List Oper) (R : Nat → Rec) (base : Nat) (e0 : Env) (s0 : St) (H : List Nat) (r : Option (Nat × Nat × Nat)) (i j : Nat) (oi oj : Oper) : Bool :=
 indB ops R base e0 s0 [] i j oi oj && (match (R j).F.tgt (base + j) with | some b => !H.contains b | none=>true) &&
 (match (R j).F with
  | .app k _=>(H.all fun b=>freW k r b (lk b s0)) &&
   ((List.range ops.length).all fun m=>match (R m).F.tgt (base + m) with | some b => !H.contains b || freW k r b (R m).F.box | none=>true)
  | _=>true)
theorem indQ_spec {H : List Nat} {r : Option (Nat × Nat × Nat)} {i j : Nat} {oi oj : Oper} (h : indQ ops R base e0 s0 H r i j oi oj = true) : IndQ ops R base e0 s0 H r i j oi oj:=by
 unfold indQ at h
 simp only [Bool.and_eq_true] at h
 obtain ⟨⟨h1,h2⟩,h3⟩:=h
 have a3 : ∀ b,(R j).F.tgt (base + j) = some b → b ∉ H:=fun b hb hm=>by
  rw [hb] at h2
  simp only [List.contains_iff_mem.2 hm,Bool.not_true] at h2
  cases h2
 cases hF : (R j).F with
 | app k b0 =>
  rw [hF] at h3
  simp only [Bool.and_eq_true] at h3
  refine ⟨indB_spec h1,a3,fun b hb B hB=>?_,fun m om b hm ht hb B hB=>?_⟩
  · rw [hF]
    have:=List.all_eq_true.1 h3.1 b hb
    rw [hB] at this
    exact bfre_jk this
  · rw [hF]
    have:=List.all_eq_true.1 h3.2 m (List.mem_range.2 (List.getElem?_eq_some_iff.1 hm).1)
    rw [ht,hB] at this
    simp only [Bool.or_eq_true,Bool.not_eq_true'] at this
    rcases this with h4 | h4
    · rw [List.contains_iff_mem.2 hb] at h4; cases h4
    · exact bfre_jk h4
 | _=>exact ⟨indB_spec h1,a3,fun b hb B hB=>by rw [hF]; exact bjk_none _,fun m om b hm ht hb B hB=>by rw [hF]; exact bjk_none _⟩
def chkQ (P : Program) (xt : Nat → List Nat) (ops : List Oper) (base : Nat) (e0 : Env) (s0 : St) (R : Nat → Rec) : Bool :=
 (List.range ops.length).all fun i=>match ops[i]? with
  | some oi=>(List.range ops.length).all fun j=>match ops[j]? with
   | some oj=>Nat.beq i j || ((!Nat.blt j i || !((R j).F.tgt (base + j) == some (base + i))) && (reach ops ops.length i j || reach ops ops.length j i || indQ ops R base e0 s0 (HX P xt ops R e0 i oi) (rngO P (envD ops R yes e0 i) oi.op) i j oi oj))
   | none=>true
  | none=>true
theorem chkQ_spec {xt : Nat → List Nat} (h : chkQ P xt ops base e0 s0 R = true) {i j : Nat} {oi oj : Oper} (hi : ops[i]? = some oi) (hj : ops[j]? = some oj) (hne : i ≠ j) :
 (j < i → (R j).F.tgt (base + j) ≠ some (base + i)) ∧ (reach ops ops.length i j = false → reach ops ops.length j i = false → IndQ ops R base e0 s0 (HX P xt ops R e0 i oi) (rngO P (envD ops R yes e0 i) oi.op) i j oi oj):=by
 have h1:=List.all_eq_true.1 h i (List.mem_range.2 (List.getElem?_eq_some_iff.1 hi).1)
 rw [hi] at h1
 have h2:=List.all_eq_true.1 h1 j (List.mem_range.2 (List.getElem?_eq_some_iff.1 hj).1)
 rw [hj] at h2
 simp only [Bool.or_eq_true,Bool.and_eq_true,Bool.not_eq_true'] at h2
 rcases h2 with h2 | h2
 · exact absurd (Nat.eq_of_beq_eq_true h2) hne
 · refine ⟨fun hlt hd=>?_,fun r1 r2=>?_⟩
   · rcases h2.1 with h3 | h3
     · rw [blt_iff.2 hlt] at h3; cases h3
     · rw [hd] at h3; simp at h3
   · rcases h2.2 with (h3 | h3) | h3
     · rw [r1] at h3; cases h3
     · rw [r2] at h3; cases h3
     · exact indQ_spec h3
theorem fix_stV {r : Option (Nat × Nat × Nat)} {J : Nat → Bool} {T : List Nat} (h0 : ∀ b ∈ T, ∀ B,lk b s0 = some B → (vw r b B).jk J = vw r b B) (h1 : ∀ m om b,ops[m]? = some om → (R m).F.tgt (base + m) = some b → b ∈ T → ∀ B,(R m).F.box = some B → (vw r b B).jk J = vw r b B) :
 ∀ n, ∀ b ∈ T, ∀ B,lk b (stD ops R D base s0 n) = some B → (vw r b B).jk J = vw r b B
 | 0,t,ht,x,hx=>h0 t ht x hx
 | n + 1, t, ht,x,hx=>by
  unfold stD at hx
  cases ho : ops[n]? with
  | none=>rw [ho] at hx; exact fix_stV h0 h1 n t ht x hx
  | some o =>
   rw [ho] at hx
   simp only at hx
   cases hD : D n with
   | false=>rw [hD] at hx; exact fix_stV h0 h1 n t ht x hx
   | true =>
    rw [hD,cond_true,lk_st] at hx
    split at hx
    · rename_i hd
      exact h1 n o t ho hd ht x hx
    · cases hl : lk t (stD ops R D base s0 n) with
      | none=>rw [hl] at hx; cases hx
      | some y =>
       rw [hl] at hx
       cases hx
       rw [vw_jk,bjk_comm,fix_stV h0 h1 n t ht y hl]
theorem view_stV {r : Option (Nat × Nat × Nat)} {H : List Nat} {i : Nat} {oi : Oper} (h : ∀ n on,ops[n]? = some on → D n ≠ D' n → IndQ ops R base e0 s0 H r i n oi on) :
 ∀ n, ∀ t ∈ H,(lk t (stD ops R D base s0 n)).map (vw r t) = (lk t (stD ops R D' base s0 n)).map (vw r t)
 | 0,t,ht=>rfl
 | n + 1, t, ht=>by
  have ih:=view_stV h n t ht
  unfold stD
  cases ho : ops[n]? with
  | none=>exact ih
  | some o =>
   simp only
   have key : ∀ D'' : Nat → Bool,IndQ ops R base e0 s0 H r i n oi o → (lk t ((R n).F.st (base + n) (stD ops R D'' base s0 n))).map (vw r t) = (lk t (stD ops R D'' base s0 n)).map (vw r t):=fun D'' hi=>by
    rw [lk_st,if_neg (fun hd=>hi.e t hd ht)]
    cases hl : lk t (stD ops R D'' base s0 n) with
    | none=>rfl
    | some y=>simp only [Option.map_some]; rw [vw_jk,fix_stV hi.h hi.k n t ht y hl]
   have both : ((lk t ((R n).F.st (base + n) (stD ops R D base s0 n))).map (vw r t)) = ((lk t ((R n).F.st (base + n) (stD ops R D' base s0 n))).map (vw r t)):=by
    rw [lk_st,lk_st]
    split
    · rfl
    · have e : ∀ o : Option Box,(o.map (Box.jk (R n).F.junks)).map (vw r t) = (o.map (vw r t)).map (Box.jk (R n).F.junks):=fun o=>by
       cases o with
       | none=>rfl
       | some B=>simp only [Option.map_some,vw_jk]
      rw [e,e,ih]
   cases hD : D n <;> cases hD2 : D' n <;> simp only [cond_true,cond_false]
   · exact ih
   · rw [key D' (h n o ho (by rw [hD,hD2]; simp)),ih]
   · rw [key D (h n o ho (by rw [hD,hD2]; simp)),ih]
   · exact both

def OpS (C : Cx P N Γ) (xs : List Nat) (ops : List Oper) (nm : Nat) (o : Oper) (e : Env) (s : St) (r : Rec) : Prop :=
 ∀ (e' : Env) (s' : St) (β : Nat → Value) (a : Act) (w : World),(∀ t ∈ lksA ops o,lk t e' = lk t e) → (∀ b ∈ hndX P e o.op ++ xs,(lk b s').map (vw (rngO P e o.op) b) = (lk b s).map (vw (rngO P e o.op) b)) → lk nm s = none → lk nm s' = none → InvB C β e' s' a w →
   ∀ (K : Act → World → Prop) (Q : Exit → Act → World → Prop),(∀ β' v w',InvB C β' (r.F.env e') (r.F.st nm s') a w' → Rp w' C.F β' (r.F.st nm s') (.s r.X v) → K (a.put o.dst v) w') →
     if Region.wanted o (yielded ops.toArray a.tmps) then o.wp P a w K Q else K (a.put o.dst undef) w
def OpP (C : Cx P N Γ) (xs : List Nat) (ops : List Oper) (o : Oper) (e : Env) (s : St) (i : Nat) (cs : List SV) (ch : List PanicEntry) : Prop :=
 ∀ (e' : Env) (s' : St) (β : Nat → Value) (a : Act) (w : World),(∀ t ∈ lksA ops o,lk t e' = lk t e) → (∀ b ∈ hndX P e o.op ++ xs,(lk b s').map (vw (rngO P e o.op) b) = (lk b s).map (vw (rngO P e o.op) b)) → InvB C β e' s' a w →
   ∀ (K : Act → World → Prop) (Q : Exit → Act → World → Prop),(∀ β' w',InvB C β' e' (put i (.cells cs) s') a w' → Q (.panic ch) a w') →
     Region.wanted o (yielded ops.toArray a.tmps) = true ∧ o.wp P a w K Q
def alive (ops : List Oper) (px : Option Nat) (j : Nat) : Bool:=match px with
 | none=>true
 | some p => !Nat.beq j p && !reach ops ops.length j p

theorem drawX_any {K : Exit → Env → St → Prop} {xt : Nat → List Nat} (px : Option Nat) (hpx : ∀ p,px = some p → p < ops.length) (hE : edgesB ops = true) (hC : chkQ P xt ops base e0 s0 R = true) (hfr : ∀ m,lk (base + m) s0 = none) (hB : regOK N ops = true)
 (hstep : ∀ j o,ops[j]? = some o → alive ops px j = true → OpS C (xt j) ops (base + j) o (envD ops R yes e0 j) (stD ops R yes base s0 j) (R j))
 (hpan : ∀ p o,px = some p → ops[p]? = some o → ∃ i cs ch,OpP C (xt p) ops o (envD ops R yes e0 p) (stD ops R yes base s0 p) i cs ch ∧ ∀ D : Nat → Bool,(∀ j,D j = true → alive ops px j = true) → K (.panic ch) (envD ops R D e0 ops.length) (put i (.cells cs) (stD ops R D base s0 ops.length)))
 (hK : px = none → K .normal (envD ops R yes e0 ops.length) (stD ops R yes base s0 ops.length)) :
 ∀ (fuel : Nat) (S : List Nat) (listed : Array Bool) (β : Nat → Value) (a : Act) (w : World),listed.size = ops.length → Closed ops listed → (∀ i,i < ops.length → listed.getD i false = false → i ∈ S) → S.length ≤ fuel → (∀ j,listed.getD j false = true → alive ops px j = true) →
   InvB C β (envD ops R (fun i=>listed.getD i false) e0 ops.length) (stD ops R (fun i=>listed.getD i false) base s0 ops.length) a w →
   wpAny P .any ops.toArray (fun ex a w => ∃ β e s,InvB C β e s a w ∧ K ex e s) fuel listed a w:=by
 have done : ∀ (listed : Array Bool) (β : Nat → Value) (a : Act) (w : World),(∀ i,i < ops.length → listed.getD i false = true) → (∀ j,listed.getD j false = true → alive ops px j = true) →
  InvB C β (envD ops R (fun i=>listed.getD i false) e0 ops.length) (stD ops R (fun i=>listed.getD i false) base s0 ops.length) a w → ∃ β e s,InvB C β e s a w ∧ K .normal e s:=by
  intro listed β a w hall hal inv
  rw [envD_congr (D':=yes) ops.length (fun j hj=>hall j hj),stD_congr (D':=yes) ops.length (fun j hj=>hall j hj)] at inv
  refine ⟨β,_,_,inv,hK ?_⟩
  cases hp : px with
  | none=>rfl
  | some p =>
   have:=hal p (hall p (hpx p hp))
   rw [hp] at this
   simp [alive] at this
 have nr : ∀ (listed : Array Bool),listed.size = ops.length → Closed ops listed → Region.ready .any ops.toArray listed = [] → ∀ i,i < ops.length → listed.getD i false = true:=by
  intro listed hsz hc hr i
  induction i using Nat.strongRecOn with
  | _ i ih =>
   intro hi
   cases hli : listed.getD i false with
   | true=>rfl
   | false =>
    exfalso
    have ho : ops[i]? = some ops[i]:=by simp [hi]
    have hm : i ∈ Region.ready .any ops.toArray listed:=by
     refine mem_ready.2 ⟨?_,ops[i],by simp [hi],fun e he hb=>?_⟩
     · have : i < listed.size:=by omega
       simp [this] at hli ⊢; exact hli
     · have:=edgesB_spec hE ho e he hb
       exact ih e.on this (by omega)
    rw [hr] at hm; cases hm
 intro fuel
 induction fuel with
 | zero =>
  intro S listed β a w hsz hc hS hSl hal inv
  have hS0 : S = []:=List.eq_nil_of_length_eq_zero (by omega)
  subst hS0
  have hall : ∀ i,i < ops.length → listed.getD i false = true:=fun i hi=>by
   cases h : listed.getD i false with
   | true=>rfl
   | false=>exact absurd (hS i hi h) (by simp)
  refine ⟨?_,done listed β a w hall hal inv⟩
  cases hr : Region.ready .any ops.toArray listed with
  | nil=>rfl
  | cons j r =>
   have hm : j ∈ Region.ready .any ops.toArray listed:=by rw [hr]; simp
   obtain ⟨h1,o,h2, -⟩:=mem_ready.1 hm
   have hj : j < ops.length:=by
    have:=(Array.getElem?_eq_some_iff.1 h2).1
    simpa using this
   have:=hall j hj
   have hjs : j < listed.size:=by omega
   simp [hjs] at h1 this
   rw [h1] at this; cases this
 | succ fuel ih =>
  intro S listed β a w hsz hc hS hSl hal inv
  refine ⟨fun hr=>done listed β a w (nr listed hsz hc hr) hal inv,fun i hi=>?_⟩
  obtain ⟨h1,o,h2,hall⟩:=mem_ready.1 hi
  have ho : ops[i]? = some o:=by simpa using h2
  have hilt : i < ops.length:=(List.getElem?_eq_some_iff.1 ho).1
  have his : i < listed.size:=by omega
  have hnot : listed.getD i false = false:=by simp [his] at h1 ⊢; exact h1
  have hiS:=hS i hilt hnot
  have hok : opOK N o = true:=List.all_eq_true.1 hB o (List.mem_of_getElem? ho)
  simp only [opOK,Bool.and_eq_true] at hok
  have hind : ∀ n on,ops[n]? = some on → (listed.getD n false) ≠ Nat.blt n i → n ≠ i ∧ reach ops ops.length i n = false ∧ reach ops ops.length n i = false:=fun n on hon hne=>by
   have r1 : n = i → False:=fun h=>by
    subst h
    have : Nat.blt n n = false:=by
     cases hb : Nat.blt n n with
     | false=>rfl
     | true=>have:=blt_iff.1 hb; omega
    rw [hnot,this] at hne; exact hne rfl
   refine ⟨r1,?_,?_⟩
   · cases hr : reach ops ops.length i n with
     | false=>rfl
     | true =>
      have q1:=reach_ready hc ho hall hr
      have q2:=blt_iff.2 (reach_lt hE _ _ _ hr)
      rw [q1,q2] at hne; exact absurd rfl hne
   · cases hr : reach ops ops.length n i with
     | false=>rfl
     | true =>
      have q2:=reach_lt hE _ _ _ hr
      cases hln : listed.getD n false with
      | true=>have:=reach_closed hc _ n i hln hr; rw [hnot] at this; cases this
      | false =>
       have : Nat.blt n i = false:=by
        cases hb : Nat.blt n i with
        | false=>rfl
        | true=>have:=blt_iff.1 hb; omega
       rw [hln,this] at hne; exact absurd rfl hne
  have hindP : ∀ n on,ops[n]? = some on → (listed.getD n false) ≠ Nat.blt n i → IndQ ops R base e0 s0 (HX P xt ops R e0 i o) (rngO P (envD ops R yes e0 i) o.op) i n o on:=fun n on hon hne=>by
   obtain ⟨g1,g2,g3⟩:=hind n on hon hne
   exact (chkQ_spec hC ho hon (Ne.symm g1)).2 g2 g3
  have htxe : envD ops R (fun n=>Nat.blt n i) e0 ops.length = envD ops R yes e0 i:=by
   rw [envD_stop (i:=i) ops.length (by omega) (fun j hj=>by
    cases hb : Nat.blt j i with
    | false=>rfl
    | true=>have:=blt_iff.1 hb; omega)]
   exact envD_congr i fun j hj=>blt_iff.2 hj
  have htxs : stD ops R (fun n=>Nat.blt n i) base s0 ops.length = stD ops R yes base s0 i:=by
   rw [stD_stop (i:=i) ops.length (by omega) (fun j hj=>by
    cases hb : Nat.blt j i with
    | false=>rfl
    | true=>have:=blt_iff.1 hb; omega)]
   exact stD_congr i fun j hj=>blt_iff.2 hj
  have hve : ∀ t ∈ lksA ops o,lk t (envD ops R (fun i=>listed.getD i false) e0 ops.length) = lk t (envD ops R yes e0 i):=fun t ht=>by
   rw [← htxe]; exact view_env (H:=[]) (base:=base) (s0:=s0) (fun n on h1 h2=>(hindP n on h1 h2).p) ops.length t ht
  have hvs : ∀ b ∈ HX P xt ops R e0 i o,(lk b (stD ops R (fun i=>listed.getD i false) base s0 ops.length)).map (vw (rngO P (envD ops R yes e0 i) o.op) b) = (lk b (stD ops R yes base s0 i)).map (vw (rngO P (envD ops R yes e0 i) o.op) b):=fun t ht=>by
   rw [← htxs]; exact view_stV hindP ops.length t ht
  by_cases hpi : px = some i
  · -- the one that panics
    obtain ⟨k,cs,ch,hop,hD⟩:=hpan i o hpi ho
    unfold wpOp
    rw [h2]
    simp only
    obtain ⟨g1,g2⟩:=hop _ _ β a w hve hvs inv (fun a w=>wpAny P .any ops.toArray (fun ex a w => ∃ β e s,InvB C β e s a w ∧ K ex e s) fuel (listed.setIfInBounds i true) a w) (fun ex a w => ∃ β e s,InvB C β e s a w ∧ K ex e s) (fun β' w' inv'=>⟨β',_,_,inv',hD _ hal⟩)
    rw [if_pos g1]
    exact .inl g2
  have hali : alive ops px i = true:=by
   cases hp : px with
   | none=>rfl
   | some p =>
    have hip : i ≠ p:=fun h=>hpi (by rw [hp,h])
    have hr : reach ops ops.length i p = false:=by
     cases hr : reach ops ops.length i p with
     | false=>rfl
     | true =>
      have q1:=hal p (reach_ready hc ho hall hr)
      rw [hp] at q1
      simp [alive] at q1
    simp only [alive,hr,Bool.not_false,Bool.and_true,Bool.not_eq_true']
    exact beq_ne hip
  have hfr1 : lk (base + i) (stD ops R (fun i=>listed.getD i false) base s0 ops.length) = none:=fresh_st (hfr i) (fun n on hon hln=>by
   have hni : n ≠ i:=fun h=>by subst h; rw [hnot] at hln; cases hln
   by_cases hlt : n < i
   · exact (chkQ_spec hC ho hon (Ne.symm hni)).1 hlt
   · intro ht
     have := hindP n on hon (by
      rw [hln]
      have : Nat.blt n i = false:=by
       cases hb : Nat.blt n i with
       | false=>rfl
       | true=>have:=blt_iff.1 hb; omega
      rw [this]; simp)
     exact (this.p.e _ ht).2.2 rfl) ops.length
  have hfr2 : lk (base + i) (stD ops R yes base s0 i) = none:=by
   rw [← htxs]
   exact fresh_st (hfr i) (fun n on hon hln=>(chkQ_spec hC ho hon (by have:=blt_iff.1 hln; omega)).1 (blt_iff.1 hln)) ops.length
  have hsz' : (listed.setIfInBounds i true).size = ops.length:=by simpa using hsz
  have hD' : ∀ j,(listed.setIfInBounds i true).getD j false = if j = i then true else listed.getD j false:=fun j=>by
   by_cases hj : j = i
   · subst hj; simp [his]
   · rw [if_neg hj,getD_set_ne false (Ne.symm hj)]
  have hal' : ∀ j,(listed.setIfInBounds i true).getD j false = true → alive ops px j = true:=fun j hj=>by
   rw [hD'] at hj
   split at hj
   · rename_i h; rw [h]; exact hali
   · exact hal j hj
  have hc' : Closed ops (listed.setIfInBounds i true):=fun j oj hj hlj e he hb=>by
   rw [hD'] at hlj ⊢
   by_cases hji : j = i
   · subst hji
     rw [ho] at hj; cases hj
     split
     · rfl
     · exact hall e he hb
   · rw [if_neg hji] at hlj
     split
     · rfl
     · exact hc j oj hj hlj e he hb
  have hS' : ∀ j,j < ops.length → (listed.setIfInBounds i true).getD j false = false → j ∈ S.erase i:=fun j hj hlj=>by
   rw [hD'] at hlj
   by_cases hji : j = i
   · rw [if_pos hji] at hlj; cases hlj
   · rw [if_neg hji] at hlj
     exact (List.mem_erase_of_ne hji).2 (hS j hj hlj)
  have hSl' : (S.erase i).length ≤ fuel:=by
   have:=List.length_erase_of_mem hiS
   omega
  have hcomm : ∀ n on,i < n → ops[n]? = some on → listed.getD n false = true → IndP ops R base e0 s0 [] i n o on ∧ IndP ops R base e0 s0 [] n i on o:=fun n on hlt hon hln=>by
   have hb : Nat.blt n i = false:=by
    cases hb : Nat.blt n i with
    | false=>rfl
    | true=>have:=blt_iff.1 hb; omega
   obtain ⟨g1,g2,g3⟩:=hind n on hon (by rw [hln,hb]; simp)
   exact ⟨((chkQ_spec hC ho hon (by omega)).2 g2 g3).p,((chkQ_spec hC hon ho (by omega)).2 g3 g2).p⟩
  have hle : ∀ t,lk t (envD ops R (fun i_1=>(listed.setIfInBounds i true).getD i_1 false) e0 ops.length) = lk t (putO o.dst (R i).X ((R i).F.env (envD ops R (fun i=>listed.getD i false) e0 ops.length))):=fun t=>by
   exact ins_env (base:=base) (s0:=s0) (H:=fun _=>[]) (D:=fun i=>listed.getD i false) ho hnot hD' hcomm t ops.length hilt
  have hls : ∀ t,lk t (stD ops R (fun i_1=>(listed.setIfInBounds i true).getD i_1 false) base s0 ops.length) = lk t ((R i).F.st (base + i) (stD ops R (fun i=>listed.getD i false) base s0 ops.length)):=fun t=>by
   exact ins_st (e0:=e0) (H:=fun _=>[]) (D:=fun i=>listed.getD i false) ho hnot hD' hcomm t ops.length hilt
  have next : ∀ β' v w',InvB C β' ((R i).F.env (envD ops R (fun i=>listed.getD i false) e0 ops.length)) ((R i).F.st (base + i) (stD ops R (fun i=>listed.getD i false) base s0 ops.length)) a w' →
   Rp w' C.F β' ((R i).F.st (base + i) (stD ops R (fun i=>listed.getD i false) base s0 ops.length)) (.s (R i).X v) →
   wpAny P .any ops.toArray (fun ex a w => ∃ β e s,InvB C β e s a w ∧ K ex e s) fuel (listed.setIfInBounds i true) (a.put o.dst v) w':=by
   intro β' v w' inv' hr
   have inv1:=(inv'.put o.dst hok.1 hr).same hls
   exact ih (S.erase i) _ β' _ _ hsz' hc' hS' hSl' hal' (inv1.withEnv inv1.size inv1.defers fun t x hx=>by rw [hle] at hx; exact inv1.env t x hx)
  have hst:=hstep i o ho hali _ _ β a w hve hvs hfr2 hfr1 inv _ (fun ex a w => ∃ β e s,InvB C β e s a w ∧ K ex e s) next
  unfold wpOp
  rw [h2]
  simp only
  split at hst
  · rename_i hw
    rw [if_pos hw]
    exact .inl hst
  · rename_i hw
    rw [if_neg hw]
    exact hst

structure AnsX where
 w : AnsW
 b : List (Nat × (Nat × (List SV × Go.Sw.D)))
 m : List (Nat × Go.Sw.D)
 n : List (Nat × (Nat × List Go.Sw.D))
 z : List Nat
 v : List (Nat × (Nat × (List SV × (Go.Sw.D × List Nat))))
def xtA (ans : AnsX) (j : Nat) : List Nat:=match lk j ans.v with | some q=>q.2.2.2 | none=>[]
def callPA (P : Program) (Γ : Gl) (ans : AnsX) (j i : Nat) (cs : List SV) (u : Value) (op : Op) (e : Env) (s : St) : Option Prop :=
 match lk j ans.v with
 | some q=>callWP P Γ i cs u q.2.2.2 op e s
 | none=>callP P Γ i cs u op e s
theorem callPA_rng {ans : AnsX} {j i : Nat} {cs : List SV} {u : Value} {op : Op} {e e1 : Env} {s : St} {q : Prop} (hq : callPA P Γ ans j i cs u op e s = some q) : rngO P e1 op = none ∧ isSt op = false:=by
 unfold callPA at hq
 split at hq
 · unfold callWP at hq
   split at hq
   · exact ⟨rfl,rfl⟩
   · cases hq
 · unfold callP at hq
   split at hq
   · exact ⟨rfl,rfl⟩
   · cases hq
theorem callPA_ok {ans : AnsX} {j i : Nat} {cs : List SV} {u : Value} {o : Oper} {e e' : Env} {s s' : St} {p : Prop} (ho : o.op.operands.toList.all opdOK = true) (hv : ∀ y ∈ o.op.operands.toList,val e' y = val e y) (hs : ∀ b ∈ hndO e o.op ++ xtA ans j,lk b s' = lk b s)
 (h : callPA P Γ ans j i cs u o.op e s = some p) (hp : p) {β : Nat → Value} {a : Act} {w : World} (inv : InvB C β e' s' a w)
 (K : Act → World → Prop) (Q : Exit → Act → World → Prop) (hQ : ∀ β' w',InvB C β' e' (put i (.cells cs) s') a w' → Q (.panic (chainOf u)) a w') : o.wp P a w K Q:=by
 unfold callPA at h
 split at h
 · rename_i q hq
   exact callWP_ok ho hv (fun b hb=>hs b (by simp only [xtA,hq]; exact hb)) h hp inv K Q hQ
 · exact callP_ok ho hv (fun b hb=>hs b (List.mem_append.2 (.inl hb))) h hp inv K Q hQ
def stepX0 (P : Program) (Γ : Gl) (ans : AnsX) (i : Nat) (g : Bool) (o : Oper) (e : Env) (s : St) (nm : Nat) : Option (Prop × SV × Eff) :=
 match lk i ans.m with
 | some d=>(callM P Γ g d o.op e s).map fun p=>(p,.d d,.none)
 | none=>match lk i ans.b with
 | some q=>(callB P Γ g q.1 q.2.1 q.2.2 o.op e s).map fun p=>(p,.d q.2.2,.set q.1 (.cells q.2.1))
 | none=>match storeE P g o.op e s with
  | some r=>some (r.1,.junk,.set r.2.1 r.2.2)
  | none=>stepW P Γ ans.w i g o e s nm
def stepX1 (P : Program) (Γ : Gl) (ans : AnsX) (i : Nat) (g : Bool) (o : Oper) (e : Env) (s : St) (nm : Nat) : Option (Prop × SV × Eff) :=
 match lk i ans.n with
 | some q=>(callN P Γ g nm q.1 q.2 o.op e s).map fun p=>(p,.own nm,.new (.row q.1 q.2))
 | none=>stepX0 P Γ ans i g o e s nm
def stepX2 (P : Program) (Γ : Gl) (ans : AnsX) (i : Nat) (g : Bool) (o : Oper) (e : Env) (s : St) (nm : Nat) : Option (Prop × SV × Eff) :=
 match lk i ans.v with
 | some q=>(callW P Γ g q.1 q.2.1 q.2.2.1 q.2.2.2 o.op e s).map fun p=>(p,.d q.2.2.1,.set q.1 (.cells q.2.1))
 | none=>stepX1 P Γ ans i g o e s nm
def frzR (r : Option (Prop × SV × Eff)) : Option (Prop × SV × Eff):=match r with
 | some (p,.own i,.app j (.row k L))=>bif Nat.beq i j then some (p,.d (.slc L),.app j (.row k [])) else none
 | _=>none
def stepX (P : Program) (Γ : Gl) (ans : AnsX) (i : Nat) (g : Bool) (o : Oper) (e : Env) (s : St) (nm : Nat) : Option (Prop × SV × Eff) :=
 bif inX ans.z i then frzR (stepX2 P Γ ans i g o e s nm) else stepX2 P Γ ans i g o e s nm
mutual
theorem jk_twice (X : Nat → Bool) : ∀ x : SV,(x.jk X).jk X = x.jk X
 | .own i=>by simp only [SV.jk]; cases h : X i <;> simp [SV.jk,h]
 | .ref i o=>by simp only [SV.jk]; cases h : X i <;> simp [SV.jk,h]
 | .eref i j o=>by simp only [SV.jk]; cases h : X i <;> simp [SV.jk,h]
 | .sref i n=>by simp only [SV.jk]; cases h : X i <;> simp [SV.jk,h]
 | .mp i=>by simp only [SV.jk]; cases h : X i <;> simp [SV.jk,h]
 | .agg cs=>by simp only [SV.jk,jks_twice X cs]
 | .tup cs=>by simp only [SV.jk,jks_twice X cs]
 | .clo f cs=>by simp only [SV.jk,jks_twice X cs]
 | .grd g x=>by simp only [SV.jk,jk_twice X x]
 | .d x=>by simp only [SV.jk]
 | .nil=>by simp only [SV.jk]
 | .fptr x o=>by simp only [SV.jk]
 | .junk=>by simp only [SV.jk]
theorem jks_twice (X : Nat → Bool) : ∀ l : List SV,SV.jks X (SV.jks X l) = SV.jks X l
 | []=>by simp only [SV.jks]
 | x :: l=>by simp only [SV.jks,jk_twice X x,jks_twice X l]
end
theorem bjk_twice (X : Nat → Bool) (b : Box) : (b.jk X).jk X = b.jk X:=by
 cases b <;> simp only [Box.jk,jks_twice]
def StepVX (P : Program) (Γ : Gl) (ans : AnsX) (ops : List Oper) (base i : Nat) (o : Oper) (e : Env) (s : St) (r : Rec) : Prop :=
 match o.guard with
 | none => ∃ p,stepX P Γ ans i true o e s (base + i) = some (p,r.X,r.F) ∧ p
 | some (j,want) => ∃ g p x,gVal e ops j want = some g ∧ stepX P Γ ans i g o e s (base + i) = some (p,x,r.F) ∧ p ∧ r.X = .grd g x
theorem sameH_of {e : Env} {op : Op} {s s' : St} (hs : ∀ b ∈ hndO e op,lk b s' = lk b s) : ∀ y ∈ op.operands.toList,SameH (opn (val e y)) s s':=fun y hy b hb B hB=>by
 rw [hs b (hnds_mem hy hb)]; exact hB
theorem opS_of {ans : AnsX} {i : Nat} {o : Oper} {e : Env} {s : St} {r : Rec} (hB : opOK N o = true) (h : StepVX P Γ ans ops base i o e s r) : OpS C (xtA ans i) ops (base + i) o e s r:=by
 intro e' s' β a w hve hvs hn hn' inv K Q hK
 simp only [opOK,Bool.and_eq_true] at hB
 have hv : ∀ y ∈ o.op.operands.toList,val e' y = val e y:=fun y hy=>val_lk hve fun t ht=>looks_opd hy ht
 have main0 : rngO P e o.op = none → isSt o.op = false → ∀ {p x F},stepX1 P Γ ans i true o e s (base + i) = some (p,x,F) → p → (∀ β' v w',InvB C β' (F.env e') (F.st (base + i) s') a w' → Rp w' C.F β' (F.st (base + i) s') (.s x v) → K (a.put o.dst v) w') → o.wp P a w K Q:=by
  intro hr hst p x F hs hp hK
  have hvs : ∀ b ∈ hndO e o.op,lk b s' = lk b s:=fun b hb=>by
   have:=hvs b (by rw [hndX_none hr hst]; exact List.mem_append.2 (.inl hb))
   rw [hr,map_vw0,map_vw0] at this
   exact this
  unfold stepX1 at hs
  split at hs
  · rename_i q hq
    obtain ⟨p',h1,h2⟩:=Option.map_eq_some_iff.1 hs
    simp only [Prod.mk.injEq] at h2
    obtain ⟨rfl,rfl,rfl⟩:=h2
    exact callN_ok hn' hB.2 hv hvs h1 hp inv K Q hK
  unfold stepX0 at hs
  split at hs
  · rename_i q hq
    obtain ⟨p',h1,h2⟩:=Option.map_eq_some_iff.1 hs
    simp only [Prod.mk.injEq] at h2
    obtain ⟨rfl,rfl,rfl⟩:=h2
    exact callM_ok hB.2 hv hvs h1 hp inv K Q hK
  split at hs
  · rename_i q hq
    obtain ⟨p',h1,h2⟩:=Option.map_eq_some_iff.1 hs
    simp only [Prod.mk.injEq] at h2
    obtain ⟨rfl,rfl,rfl⟩:=h2
    exact callB_ok hB.2 hv hvs h1 hp inv K Q hK
  split at hs
  · rename_i r hr2
    simp only [Option.some.injEq,Prod.mk.injEq] at hs
    obtain ⟨rfl,rfl,rfl⟩:=hs
    exact storeE_ok hB.2 hv (fun y hy i0 idx off h0=>hvs i0 (hnds_mem hy (by rw [h0]; simp [SV.hnd]))) hr2 hp β a w inv K Q fun β' v w' inv' _ hrp=>hK β' v w' inv' hrp
  · exact stepW_ok hB.2 hn hn' hv (sameH_of hvs) hs hp inv K Q hK
 have mainA : ∀ {p x F}, stepX1 P Γ ans i true o e s (base + i) = some (p,x,F) → p → (∀ β' v w',InvB C β' (F.env e') (F.st (base + i) s') a w' → Rp w' C.F β' (F.st (base + i) s') (.s x v) → K (a.put o.dst v) w') → o.wp P a w K Q:=by
  intro p x F hs hp hK
  cases hst : isSt o.op with
  | true =>
   obtain ⟨dst,op,ty,pos,af,gd⟩:=o
   simp only at hst hB hv hvs hs hK
   cases op with
   | store t y z =>
    have vy : val e' y = val e y:=hv y (by simp [Op.operands])
    have vz : val e' z = val e z:=hv z (by simp [Op.operands])
    have hvx : ∀ b ∈ (opn (val e y)).hnd,lk b s' = lk b s:=fun b hb=>by
     have:=hvs b (List.mem_append.2 (.inl (by simpa only [hndX] using hb)))
     simp only [rngO,map_vw0] at this
     exact this
    unfold stepX1 at hs
    split at hs
    · obtain ⟨p',h1,h2⟩:=Option.map_eq_some_iff.1 hs
      simp [callN] at h1
    unfold stepX0 at hs
    split at hs
    · obtain ⟨p',h1,h2⟩:=Option.map_eq_some_iff.1 hs
      simp [callM] at h1
    split at hs
    · obtain ⟨p',h1,h2⟩:=Option.map_eq_some_iff.1 hs
      simp [callB] at h1
    split at hs
    · rename_i r hr2
      simp only [Option.some.injEq,Prod.mk.injEq] at hs
      obtain ⟨rfl,rfl,rfl⟩:=hs
      refine storeE_ok hB.2 hv (fun yy hy i0 idx off h0=>?_) hr2 hp β a w inv K Q fun β' v w' inv' _ hrp=>hK β' v w' inv' hrp
      simp only [Op.operands,List.mem_cons,List.not_mem_nil,or_false] at hy
      rcases hy with rfl | rfl
      · exact hvx i0 (by rw [h0]; simp [SV.hnd])
      · exfalso
        unfold storeE at hr2
        simp only at hr2
        split at hr2
        · rw [h0] at hr2
          simp only [SV.cells,dAll] at hr2
          split at hr2
          · rename_i hz; cases hz
          · cases hr2
        · cases hr2
    · unfold stepW at hs
      split at hs
      · obtain ⟨p',h1,h2⟩:=Option.map_eq_some_iff.1 hs
        simp [callR] at h1
      split at hs
      · obtain ⟨p',h1,h2⟩:=Option.map_eq_some_iff.1 hs
        simp [callA] at h1
      simp only [pureOp,writeOp,Bool.false_or,cond_true] at hs
      split at hs
      · rename_i p1 x1 e1 s1 hso
        simp only [effO,stepO] at hs hso
        split at hso
        · rename_i i off hy
          split at hso
          · rename_i cs n hl hn2
            simp only [Option.some.injEq,Prod.mk.injEq] at hso
            obtain ⟨rfl,rfl,rfl,rfl⟩:=hso
            rw [hy] at hs
            simp only [lk_put_same,Option.map_some,Option.some.injEq,Prod.mk.injEq] at hs
            obtain ⟨rfl,rfl,rfl⟩:=hs
            have hl' : lk i s' = some (.cells cs):=by rw [hvx i (by rw [hy]; simp [SV.hnd])]; exact hl
            obtain ⟨q,hq,hst2⟩ : ∃ q : Prop,q ∧ ∀ nm,stepO P true ⟨dst,.store t y z,ty,pos,af,gd⟩ e' s' nm = some (q,SV.junk,e',put i (.cells (upd cs off (opn (val e z)).cells)) s'):=⟨_,hp,fun nm=>by simp only [stepO,vy,vz,hy,hl',hn2]⟩
            exact stepN_ok hn' hB.2 (hst2 _) hq β a w inv K Q fun β' v w' inv' _ hrp=>hK β' v w' inv' hrp
          · cases hso
        · cases hso
      · cases hs
   | _=>simp [isSt] at hst
  | false =>
  cases hr : rngO P e o.op with
  | none=>exact main0 hr hst hs hp hK
  | some q =>
   obtain ⟨dst,op,ty,pos,af,gd⟩:=o
   simp only at hr hB hv hvs hs hK
   cases op with
   | load t y =>
    simp only [rngO] at hr
    split at hr
    · rename_i i0 off hy
      split at hr
      · rename_i n hn0
        cases hr
        have hmem : i0 ∈ hndO e (.load t y):=by
         simp [hndO,Op.operands,vals,opns,hy,SV.hnds,SV.hnd]
        have hrq : rngO P e (.load t y) = some (i0,off,n + 1):=by simp only [rngO,hy,hn0]
        have hvi:=hvs i0 (by rw [hndX_some hrq]; exact List.mem_append.2 (.inl hmem))
        rw [hrq] at hvi
        have hy' : opn (val e' y) = .ref i0 off:=by rw [hv y (by simp [Op.operands])]; exact hy
        have hyv : val e' y = val e y:=hv y (by simp [Op.operands])
        unfold stepX1 at hs
        split at hs
        · obtain ⟨p',h1,h2⟩:=Option.map_eq_some_iff.1 hs
          simp [callN] at h1
        unfold stepX0 at hs
        split at hs
        · obtain ⟨p',h1,h2⟩:=Option.map_eq_some_iff.1 hs
          simp [callM] at h1
        split at hs
        · obtain ⟨p',h1,h2⟩:=Option.map_eq_some_iff.1 hs
          simp [callB] at h1
        simp only [storeE] at hs
        unfold stepW at hs
        split at hs
        · obtain ⟨p',h1,h2⟩:=Option.map_eq_some_iff.1 hs
          simp [callR] at h1
        split at hs
        · obtain ⟨p',h1,h2⟩:=Option.map_eq_some_iff.1 hs
          unfold callA at h1
          simp only at h1
          split at h1
          · simp [val,opn] at hy
          · cases h1
        · simp only [pureOp,Bool.true_or,cond_true,stepO,hy] at hs
          cases hl : lk i0 s with
          | none=>rw [hl] at hs; simp at hs
          | some B =>
           rw [hl] at hs hvi
           cases B with
           | row k L=>simp at hs
           | mp M=>simp at hs
           | cells cs =>
            simp only at hs
            cases hld : loadC P t (cs.drop off) with
            | none=>rw [hld] at hs; simp at hs
            | some r =>
             rw [hld] at hs
             simp only [Option.map_some,effO,Option.some.injEq,Prod.mk.injEq] at hs
             obtain ⟨rfl,rfl,rfl⟩:=hs
             cases hl' : lk i0 s' with
             | none=>rw [hl'] at hvi; simp at hvi
             | some B' =>
              rw [hl'] at hvi
              cases B' with
              | row k L =>
               simp only [Option.map_some,vw,beq_self,cond_true,Option.some.injEq] at hvi
               cases hvi
              | mp M =>
               simp only [Option.map_some,vw,beq_self,cond_true,Option.some.injEq] at hvi
               cases hvi
              | cells cs' =>
               simp only [Option.map_some,vw,beq_self,cond_true,Option.some.injEq,Box.cells.injEq] at hvi
               obtain ⟨r',g1,g2,g3⟩:=load_vw hn0 hvi.symm hld hp.2
               have hst : stepO P true ⟨dst,.load t y,ty,pos,af,gd⟩ e' s' (base + i) = some (ok1 true (val e' y) ∧ r'.1,r'.2,e',s'):=by
                simp only [stepO,hy',hl',g1,Option.map_some]
               refine stepN_ok hn' hB.2 hst ⟨by rw [hyv]; exact hp.1,g3⟩ β a w inv K Q fun β' v w' inv' _ hrp=>hK β' v w' inv' ?_
               rw [← g2]; exact hrp
      · cases hr
    · cases hr
   | fieldAddr t y f =>
    have hyv : val e' y = val e y:=hv y (by simp [Op.operands])
    unfold stepX1 at hs
    split at hs
    · obtain ⟨p',h1,h2⟩:=Option.map_eq_some_iff.1 hs
      simp [callN] at h1
    unfold stepX0 at hs
    split at hs
    · obtain ⟨p',h1,h2⟩:=Option.map_eq_some_iff.1 hs
      simp [callM] at h1
    split at hs
    · obtain ⟨p',h1,h2⟩:=Option.map_eq_some_iff.1 hs
      simp [callB] at h1
    simp only [storeE] at hs
    unfold stepW at hs
    split at hs
    · obtain ⟨p',h1,h2⟩:=Option.map_eq_some_iff.1 hs
      simp [callR] at h1
    split at hs
    · obtain ⟨p',h1,h2⟩:=Option.map_eq_some_iff.1 hs
      simp [callA] at h1
    · simp only [pureOp,Bool.true_or,cond_true] at hs
      split at hs
      · rename_i p1 x1 e1 s1 hst
        simp only [effO,Option.map_some,Option.some.injEq,Prod.mk.injEq] at hs
        obtain ⟨rfl,rfl,rfl⟩:=hs
        have hst2 : stepO P true ⟨dst,.fieldAddr t y f,ty,pos,af,gd⟩ e' s' (base + i) = some (p1,x1,e',s'):=by
         simp only [stepO,hyv] at hst ⊢
         split at hst
         · split at hst <;> first
            | (simp only [Option.some.injEq,Prod.mk.injEq] at hst ⊢; exact ⟨hst.1,hst.2.1,trivial⟩)
            | (cases hst; done)
         · cases hst
        exact stepN_ok hn' hB.2 hst2 hp β a w inv K Q fun β' v w' inv' _ hrp=>hK β' v w' inv' hrp
      · cases hs
   | move y =>
    have hyv : val e' y = val e y:=hv y (by simp [Op.operands])
    unfold stepX1 at hs
    split at hs
    · obtain ⟨p',h1,h2⟩:=Option.map_eq_some_iff.1 hs
      simp [callN] at h1
    unfold stepX0 at hs
    split at hs
    · obtain ⟨p',h1,h2⟩:=Option.map_eq_some_iff.1 hs
      simp [callM] at h1
    split at hs
    · obtain ⟨p',h1,h2⟩:=Option.map_eq_some_iff.1 hs
      simp [callB] at h1
    simp only [storeE] at hs
    unfold stepW at hs
    split at hs
    · obtain ⟨p',h1,h2⟩:=Option.map_eq_some_iff.1 hs
      simp [callR] at h1
    split at hs
    · obtain ⟨p',h1,h2⟩:=Option.map_eq_some_iff.1 hs
      simp [callA] at h1
    · simp only [pureOp,Bool.true_or,cond_true] at hs
      split at hs
      · rename_i p1 x1 e1 s1 hst
        simp only [effO,Option.map_some,Option.some.injEq,Prod.mk.injEq] at hs
        obtain ⟨rfl,rfl,rfl⟩:=hs
        have hst2 : stepO P true ⟨dst,.move y,ty,pos,af,gd⟩ e' s' (base + i) = some (p1,x1,e',s'):=by
         simp only [stepO,hyv,Option.some.injEq,Prod.mk.injEq] at hst ⊢
         exact ⟨hst.1,hst.2.1,trivial⟩
        exact stepN_ok hn' hB.2 hst2 hp β a w inv K Q fun β' v w' inv' _ hrp=>hK β' v w' inv' hrp
      · cases hs
   | nilCheck y =>
    have hyv : val e' y = val e y:=hv y (by simp [Op.operands])
    unfold stepX1 at hs
    split at hs
    · obtain ⟨p',h1,h2⟩:=Option.map_eq_some_iff.1 hs
      simp [callN] at h1
    unfold stepX0 at hs
    split at hs
    · obtain ⟨p',h1,h2⟩:=Option.map_eq_some_iff.1 hs
      simp [callM] at h1
    split at hs
    · obtain ⟨p',h1,h2⟩:=Option.map_eq_some_iff.1 hs
      simp [callB] at h1
    simp only [storeE] at hs
    unfold stepW at hs
    split at hs
    · obtain ⟨p',h1,h2⟩:=Option.map_eq_some_iff.1 hs
      simp [callR] at h1
    split at hs
    · obtain ⟨p',h1,h2⟩:=Option.map_eq_some_iff.1 hs
      simp [callA] at h1
    · simp only [pureOp,Bool.true_or,cond_true] at hs
      split at hs
      · rename_i p1 x1 e1 s1 hst
        simp only [effO,Option.map_some,Option.some.injEq,Prod.mk.injEq] at hs
        obtain ⟨rfl,rfl,rfl⟩:=hs
        have hst2 : stepO P true ⟨dst,.nilCheck y,ty,pos,af,gd⟩ e' s' (base + i) = some (p1,x1,e',s'):=by
         simp only [stepO,hyv] at hst ⊢
         split at hst <;> first
          | (simp only [Option.some.injEq,Prod.mk.injEq] at hst ⊢; exact ⟨hst.1,hst.2.1,trivial⟩)
          | (cases hst; done)
        exact stepN_ok hn' hB.2 hst2 hp β a w inv K Q fun β' v w' inv' _ hrp=>hK β' v w' inv' hrp
      · cases hs
   | _=>simp [rngO] at hr
 have idleA : ∀ {p x F},stepX1 P Γ ans i false o e s (base + i) = some (p,x,F) → p → F = .none:=by
  intro p x F hs hp
  unfold stepX1 at hs
  split at hs
  · rename_i q hq
    obtain ⟨p',h1,h2⟩:=Option.map_eq_some_iff.1 hs
    simp only [Prod.mk.injEq] at h2
    obtain ⟨rfl, -, -⟩:=h2
    unfold callN at h1
    (repeat' split at h1)
    all_goals first
     | (cases h1; done)
     | (simp only [Option.some.injEq] at h1; subst h1; exact absurd hp.1 (by simp))
  unfold stepX0 at hs
  split at hs
  · rename_i q hq
    obtain ⟨p',h1,h2⟩:=Option.map_eq_some_iff.1 hs
    simp only [Prod.mk.injEq] at h2
    obtain ⟨rfl, -, -⟩:=h2
    unfold callM at h1
    (repeat' split at h1)
    all_goals first
     | (cases h1; done)
     | (simp only [Option.some.injEq] at h1; subst h1; exact absurd hp.1 (by simp))
  split at hs
  · rename_i q hq
    obtain ⟨p',h1,h2⟩:=Option.map_eq_some_iff.1 hs
    simp only [Prod.mk.injEq] at h2
    obtain ⟨rfl, -, -⟩:=h2
    unfold callB at h1
    (repeat' split at h1)
    all_goals first
     | (cases h1; done)
     | (simp only [Option.some.injEq] at h1; subst h1; exact absurd hp.1 (by simp))
  split at hs
  · rename_i r hr2
    simp only [Option.some.injEq,Prod.mk.injEq] at hs
    obtain ⟨rfl,rfl,rfl⟩:=hs
    exact (storeE_idle hr2 hp).elim
  · exact stepW_idle hn hs hp
 have main2 : ∀ {p x F},stepX2 P Γ ans i true o e s (base + i) = some (p,x,F) → p → (∀ β' v w',InvB C β' (F.env e') (F.st (base + i) s') a w' → Rp w' C.F β' (F.st (base + i) s') (.s x v) → K (a.put o.dst v) w') → o.wp P a w K Q:=by
  intro p x F hs hp hK
  unfold stepX2 at hs
  split at hs
  · rename_i q hq
    obtain ⟨p',h1,h2⟩:=Option.map_eq_some_iff.1 hs
    simp only [Prod.mk.injEq] at h2
    obtain ⟨rfl,rfl,rfl⟩:=h2
    have hr : rngO P e o.op = none ∧ isSt o.op = false:=by
     unfold callW at h1
     split at h1
     · rename_i c hc; rw [hc]; exact ⟨rfl,rfl⟩
     · cases h1
    refine callW_ok hB.2 hv (fun b hb=>?_) h1 hp inv K Q hK
    have:=hvs b (by rw [hndX_none hr.1 hr.2]; simp only [xtA,hq]; exact hb)
    rw [hr.1,map_vw0,map_vw0] at this
    exact this
  · exact mainA hs hp hK
 have idle2 : ∀ {p x F},stepX2 P Γ ans i false o e s (base + i) = some (p,x,F) → p → F = .none:=by
  intro p x F hs hp
  unfold stepX2 at hs
  split at hs
  · rename_i q hq
    obtain ⟨p',h1,h2⟩:=Option.map_eq_some_iff.1 hs
    simp only [Prod.mk.injEq] at h2
    obtain ⟨rfl, -, -⟩:=h2
    unfold callW at h1
    (repeat' split at h1)
    all_goals first
     | (cases h1; done)
     | (simp only [Option.some.injEq] at h1; subst h1; exact absurd hp.1 (by simp))
  · exact idleA hs hp
 have main : ∀ {p x F},stepX P Γ ans i true o e s (base + i) = some (p,x,F) → p → (∀ β' v w',InvB C β' (F.env e') (F.st (base + i) s') a w' → Rp w' C.F β' (F.st (base + i) s') (.s x v) → K (a.put o.dst v) w') → o.wp P a w K Q:=by
  intro p x F hs hp hK
  unfold stepX at hs
  cases hz : inX ans.z i with
  | false=>rw [hz,cond_false] at hs; exact main2 hs hp hK
  | true =>
   rw [hz,cond_true] at hs
   unfold frzR at hs
   split at hs
   · rename_i p1 i1 j1 k1 L1 h1
     cases hb : Nat.beq i1 j1 with
     | false=>rw [hb] at hs; cases hs
     | true =>
      rw [hb,cond_true] at hs
      simp only [Option.some.injEq,Prod.mk.injEq] at hs
      obtain ⟨rfl,rfl,rfl⟩:=hs
      obtain rfl:=Nat.eq_of_beq_eq_true hb
      refine main2 h1 hp (fun β' v w' inv' hr=>?_)
      have hl : lk i1 (Eff.st (base + i) (.app i1 (.row k1 L1)) s') = some (.row k1 L1):=lk_put_same _ _ _
      have i2:=rownil_inv inv' hl
      have r2:=rownil_rp inv' hl hr
      have hls : ∀ t,lk t (Eff.st (base + i) (.app i1 (.row k1 [])) s') = lk t (put i1 (.row k1 []) (jkS (Nat.beq i1) (Eff.st (base + i) (.app i1 (.row k1 L1)) s'))):=fun t=>by
       simp only [Eff.st]
       by_cases ht : t = i1
       · subst ht; rw [lk_put_same,lk_put_same]
       · rw [lk_put_ne _ ht,lk_put_ne _ ht,lk_jkS,lk_jkS,lk_put_ne _ ht,lk_jkS]
         cases lk t s' with
         | none=>rfl
         | some b=>simp [bjk_twice]
      have i3:=i2.same hls
      refine hK _ v w' (i3.withEnv i3.size i3.defers fun t x hx=>i3.env t x ?_) (Rp.keep0 (ext_same hls) r2)
      simp only [Eff.env] at hx ⊢
      rw [lk_jkE,lk_jkE]
      rw [lk_jkE] at hx
      cases hle : lk t e' with
      | none=>rw [hle] at hx; cases hx
      | some y =>
       rw [hle] at hx
       simp only [Option.map_some,Option.some.injEq] at hx ⊢
       rw [jk_twice]; exact hx
   · cases hs
 have idle : ∀ {p x F},stepX P Γ ans i false o e s (base + i) = some (p,x,F) → p → F = .none:=by
  intro p x F hs hp
  unfold stepX at hs
  cases hz : inX ans.z i with
  | false=>rw [hz,cond_false] at hs; exact idle2 hs hp
  | true =>
   rw [hz,cond_true] at hs
   unfold frzR at hs
   split at hs
   · rename_i p1 i1 j1 k1 L1 h1
     cases hb : Nat.beq i1 j1 with
     | false=>rw [hb] at hs; cases hs
     | true =>
      rw [hb,cond_true] at hs
      simp only [Option.some.injEq,Prod.mk.injEq] at hs
      obtain ⟨rfl,rfl,rfl⟩:=hs
      have:=idle2 h1 hp
      cases this
   · cases hs
 unfold StepVX at h
 split at h
 · rename_i hg
   obtain ⟨p,hsW,hp⟩:=h
   rw [if_pos (by simp [Region.wanted,hg])]
   exact main hsW hp hK
 · rename_i j want hg
   obtain ⟨g,p,x,hgv,hsW,hp,hY⟩:=h
   have hw:=gVal_ok inv hg ((gVal_lk hg hve).trans hgv)
   rw [hw]
   cases g with
   | true =>
    simp only [if_true]
    exact main hsW hp (fun β' v w' inv' hr=>hK β' v w' inv' (by rw [hY]; exact .grdT hr))
   | false =>
    simp only [Bool.false_eq_true,if_false]
    have hF:=idle hsW hp
    refine hK β undef w ?_ (by rw [hY]; exact .grdF)
    rw [hF]; exact inv
def vcX (P : Program) (Γ : Gl) (ans : AnsX) (ops : List Oper) (base : Nat) (al : Nat → Bool) (fin : (Nat → Rec) → Bool) : Nat → List Oper → Env → St → List Rec → (Nat → Env → St → Prop) → (Env → St → Prop) → Prop
 | _,[],e,s,acc,_,K=>fin (RL acc) = true ∧ K e s
 | i, o :: rest,e,s,acc,X,K=>X i e s ∧ bif al i then (match o.guard with
  | none=>match stepX P Γ ans i true o e s (base + i) with
   | some (p,x,F)=>p ∧ vcX P Γ ans ops base al fin (i + 1) rest (putO o.dst x (F.env e)) (F.st (base + i) s) (acc ++ [⟨x,F⟩]) X K
   | none=>False
  | some (j,want)=>match gVal e ops j want with
   | some g=>match stepX P Γ ans i g o e s (base + i) with
    | some (p,x,F)=>p ∧ vcX P Γ ans ops base al fin (i + 1) rest (putO o.dst (.grd g x) (F.env e)) (F.st (base + i) s) (acc ++ [⟨.grd g x,F⟩]) X K
    | none=>False
   | none=>False) else vcX P Γ ans ops base al fin (i + 1) rest (putO o.dst .junk e) s (acc ++ [⟨.junk,.none⟩]) X K
theorem vcX_run {ans : AnsX} {al : Nat → Bool} {fin : (Nat → Rec) → Bool} {X : Nat → Env → St → Prop} {K : Env → St → Prop} : ∀ (l : List Oper) (i : Nat) (acc : List Rec),acc.length = i → (∀ j,l[j]? = ops[i + j]?) →
 vcX P Γ ans ops base al fin i l (envD ops (RL acc) yes e0 i) (stD ops (RL acc) yes base s0 i) acc X K →
 ∃ R : Nat → Rec,(∀ j,j < i → R j = RL acc j) ∧ (∀ j o,i ≤ j → ops[j]? = some o → X j (envD ops R yes e0 j) (stD ops R yes base s0 j) ∧ (al j = true → StepVX P Γ ans ops base j o (envD ops R yes e0 j) (stD ops R yes base s0 j) (R j)) ∧ (al j = false → R j = ⟨.junk,.none⟩)) ∧ fin R = true ∧
   K (envD ops R yes e0 ops.length) (stD ops R yes base s0 ops.length)
 | [], i,acc,ha,hl,h=>by
  have hlen : ops.length ≤ i:=by
   have:=hl 0
   simpa using this.symm
  unfold vcX at h
  refine ⟨RL acc,fun _ _=>rfl,(fun j o hj ho=>?_),h.1,?_⟩
  · have:=(List.getElem?_eq_some_iff.1 ho).1
    omega
  · rw [← envD_end i hlen, ← stD_end i hlen]; exact h.2
 | o :: rest,i,acc,ha,hl,h=>by
  have ho : ops[i]? = some o:=by simpa using (hl 0).symm
  have hl' : ∀ j,rest[j]? = ops[i + 1 + j]? := fun j=>by have:=hl (j + 1); simpa [Nat.add_assoc,Nat.add_comm 1 j] using this
  unfold vcX at h
  obtain ⟨hX,h⟩:=h
  have step : ∀ r : Rec,(al i = true → StepVX P Γ ans ops base i o (envD ops (RL acc) yes e0 i) (stD ops (RL acc) yes base s0 i) r) → (al i = false → r = ⟨.junk,.none⟩) →
   vcX P Γ ans ops base al fin (i + 1) rest (putO o.dst r.X (r.F.env (envD ops (RL acc) yes e0 i))) (r.F.st (base + i) (stD ops (RL acc) yes base s0 i)) (acc ++ [r]) X K →
   ∃ R : Nat → Rec,(∀ j,j < i → R j = RL acc j) ∧ (∀ j o,i ≤ j → ops[j]? = some o → X j (envD ops R yes e0 j) (stD ops R yes base s0 j) ∧ (al j = true → StepVX P Γ ans ops base j o (envD ops R yes e0 j) (stD ops R yes base s0 j) (R j)) ∧ (al j = false → R j = ⟨.junk,.none⟩)) ∧ fin R = true ∧
     K (envD ops R yes e0 ops.length) (stD ops R yes base s0 ops.length):=fun r hr hr2 hrest=>by
   have hlast : RL (acc ++ [r]) i = r:=by rw [← ha]; exact RL_last
   have hz1 : envD ops (RL (acc ++ [r])) yes e0 (i + 1) = putO o.dst r.X (r.F.env (envD ops (RL acc) yes e0 i)):=by
    conv=>lhs; unfold envD
    rw [ho]
    simp only [yes,cond_true,hlast]
    rw [envD_congrR (R':=RL acc) i fun j hj=>RL_app (by omega)]
   have hz2 : stD ops (RL (acc ++ [r])) yes base s0 (i + 1) = r.F.st (base + i) (stD ops (RL acc) yes base s0 i):=by
    conv=>lhs; unfold stD
    rw [ho]
    simp only [yes,cond_true,hlast]
    rw [stD_congrR (R':=RL acc) i fun j hj=>RL_app (by omega)]
   obtain ⟨R,h1,h2,h3,h4⟩:=vcX_run rest (i + 1) (acc ++ [r]) (by simp [ha]) hl' (by rw [hz1,hz2]; exact hrest)
   have hR : ∀ j,j < i → R j = RL acc j:=fun j hj=>by rw [h1 j (by omega)]; exact RL_app (by omega)
   refine ⟨R,hR,fun j o' hj ho'=>?_,h3,h4⟩
   by_cases hji : j = i
   · subst hji
     rw [ho] at ho'
     cases ho'
     rw [envD_congrR j hR,stD_congrR j hR,h1 j (by omega),hlast]
     exact ⟨hX,hr,hr2⟩
   · exact h2 j o' (by omega) ho'
  cases hal : al i with
  | false =>
   rw [hal,cond_false] at h
   exact step ⟨.junk,.none⟩ (fun h=>by rw [hal] at h; cases h) (fun _=>rfl) h
  | true =>
   rw [hal,cond_true] at h
   split at h
   · rename_i hg
     split at h
     · rename_i p x F hs
       exact step ⟨x,F⟩ (fun _=>by unfold StepVX; rw [hg]; exact ⟨p,hs,h.1⟩) (fun h=>by rw [hal] at h; cases h) h.2
     · exact h.elim
   · rename_i j want hg
     split at h
     · rename_i g hv
       split at h
       · rename_i p x F hs
         exact step ⟨.grd g x,F⟩ (fun _=>by unfold StepVX; rw [hg]; exact ⟨g,p,x,hv,hs,h.1,rfl⟩) (fun h=>by rw [hal] at h; cases h) h.2
       · exact h.elim
     · exact h.elim
theorem region_any {K : Exit → Env → St → Prop} {e : Env} {s : St} {id : Nat} {l : List Oper} (hm : P.follows .mixedOrders = true) {β : Nat → Value} {a : Act} {w : World} (inv : InvB C β e s a w)
 (h : ∀ β a w,InvB C β e s a w → wpAny P .any l.toArray (fun ex a w => ∃ β e s,InvB C β e s a w ∧ K ex e s) l.toArray.size (Array.replicate l.toArray.size false) a w) :
 (Code.region id l.toArray true).wp P (fun ex a w => ∃ β e s,InvB C β e s a w ∧ K ex e s) a w :=
 wp_region_any hm (h β a _ (inv.grow ((Below.refl w.heap.size w).drew)))
theorem rep_no {l : List Oper} (j : Nat) : (Array.replicate l.toArray.size false).getD j false = false:=by
 rcases Nat.lt_or_ge j l.toArray.size with h | h
 · simp at h; simp [h]
 · simp at h; simp [h]
theorem swp_drawX {K : Exit → Env → St → Prop} {e : Env} {s : St} {id : Nat} {l : List Oper} (hm : P.follows .mixedOrders = true) (hB : regOK N l = true) (hE : edgesB l = true) (ans : AnsX) (base : Nat) (hb : nx s = base)
 (h : ∀ K' : Exit → Env → St → Prop,(∀ e s,K .normal e s → K' .normal e s) → ∀ (gops : List Oper) (fin : (Nat → Rec) → Bool),gops = l → fin = chkQ P (xtA ans) l base e s → vcX P Γ ans gops base yes fin 0 l e s [] (fun _ _ _=>True) (K' .normal)) : Swp C (.region id l.toArray true) K e s:=by
 intro β a w inv
 have hv:=h K (fun e s h=>h) l _ rfl rfl
 obtain ⟨R, -,h2,h3,h4⟩:=vcX_run (P:=P) (Γ := Γ) (ops:=l) (e0:=e) (s0:=s) l 0 [] rfl (fun j=>by simp) hv
 refine region_any hm inv fun β a w inv1=>drawX_any (C:=C) (R:=R) (base:=base) (e0:=e) (s0:=s) none (fun p h=>by cases h) hE h3 (fun m=>?_) hB (fun j o ho _=>opS_of (List.all_eq_true.1 hB o (List.mem_of_getElem? ho)) ((h2 j o (Nat.zero_le _) ho).2.1 rfl)) (fun p o h=>by cases h) (fun _=>h4) l.toArray.size (List.range l.length) (Array.replicate l.toArray.size false) β a _ (by simp) (fun j o _ hl=>?_) (fun i hi _=>List.mem_range.2 hi) (by simp) (fun j hj=>by rw [rep_no] at hj; cases hj) ?_
 · cases hl : lk (base + m) s with
   | none=>rfl
   | some b=>have:=le_nx hl; omega
 · exfalso
   rw [rep_no] at hl; cases hl
 · rw [envD_stop (i:=0) l.length (Nat.zero_le _) (fun j _=>rep_no j),stD_stop (i:=0) l.length (Nat.zero_le _) (fun j _=>rep_no j)]
   exact inv1
def keepsB (ops : List Oper) (base : Nat) (s0 : St) (al : Nat → Bool) (R : Nat → Rec) (bs : List Nat) : Bool:=(List.range ops.length).all fun j => !al j || (bs.all fun b => !((R j).F.tgt (base + j) == some b) && (match (R j).F with | .app k _=>(match lk b s0 with | some B=>B.fre k | none=>true) | _=>true))
theorem keepsB_st {bs : List Nat} {al : Nat → Bool} (h : keepsB ops base s0 al R bs = true) (hD : ∀ j,D j = true → al j = true) : ∀ n, ∀ b ∈ bs,lk b (stD ops R D base s0 n) = lk b s0
 | 0,b,hb=>rfl
 | n + 1, b,hb=>by
  have ih:=keepsB_st h hD n b hb
  unfold stD
  cases ho : ops[n]? with
  | none=>exact ih
  | some o =>
   simp only
   cases hDn : D n with
   | false=>exact ih
   | true =>
    have h1:=List.all_eq_true.1 h n (List.mem_range.2 (List.getElem?_eq_some_iff.1 ho).1)
    rw [hD n hDn] at h1
    simp only [Bool.not_true,Bool.false_or] at h1
    have h2:=List.all_eq_true.1 h1 b hb
    simp only [Bool.and_eq_true,Bool.not_eq_true'] at h2
    rw [cond_true,lk_st,if_neg (fun q=>by rw [q] at h2; simp at h2),ih]
    cases hl : lk b s0 with
    | none=>rfl
    | some B =>
     have h3:=h2.2
     rw [hl] at h3
     rw [Option.map_some]
     congr 1
     apply bjk_of_fre
     cases hF : (R n).F <;> rw [hF] at h3 <;> first | exact h3 | rfl
theorem swp_drawP {K : Exit → Env → St → Prop} {e : Env} {s : St} {id : Nat} {l : List Oper} (hm : P.follows .mixedOrders = true) (hB : regOK N l = true) (hE : edgesB l = true) (ans : AnsX) (base : Nat) (hb : nx s = base) (bs : List Nat) (p i : Nat) (cs : List SV) (u : Value) (ds : List Nat) {o : Oper} (ho : l[p]? = some o) (hg : o.guard = none)
 (hd : ((List.range l.length).all fun j=>alive l (some p) j == !inX ds j) = true)
 (h : ∀ K' : Exit → Env → St → Prop,(∀ e s,K .normal e s → K' .normal e s) → ∀ (gops : List Oper) (fin : (Nat → Rec) → Bool),gops = l → fin = (fun R=>chkQ P (xtA ans) l base e s R && keepsB l base s (fun j => !inX ds j) R bs) → vcX P Γ ans gops base (fun j => !inX ds j) fin 0 l e s [] (fun j e s=>bif Nat.beq j p then (match callPA P Γ ans p i cs u o.op e s with | some q=>q | none=>False) else True) (fun _ _ => ∀ e' s',(∀ b ∈ bs,lk b s' = lk b s) → K (.panic (chainOf u)) e' (put i (.cells cs) s'))) : Swp C (.region id l.toArray true) K e s:=by
 intro β a w inv
 have hv:=h K (fun e s h=>h) l _ rfl rfl
 obtain ⟨R, -,h2,h3,h4⟩:=vcX_run (P:=P) (Γ := Γ) (ops:=l) (e0:=e) (s0:=s) l 0 [] rfl (fun j=>by simp) hv
 simp only [Bool.and_eq_true] at h3
 have hplt : p < l.length:=(List.getElem?_eq_some_iff.1 ho).1
 have hal : ∀ j,j < l.length → alive l (some p) j = !inX ds j:=fun j hj=>by
  have:=List.all_eq_true.1 hd j (List.mem_range.2 hj)
  simpa using this
 have hst : ∀ (D : Nat → Bool),(∀ j,D j = true → alive l (some p) j = true) → ∀ n,n ≤ l.length → stD l R D base s n = stD l R (fun j=>D j && Nat.blt j l.length) base s n:=fun D hD n hn=>stD_congr n fun j hj=>by
  have : Nat.blt j l.length = true:=blt_iff.2 (by omega)
  simp only [this,Bool.and_true]
 refine region_any hm inv fun β a w inv1=>drawX_any (C:=C) (R:=R) (base:=base) (e0:=e) (s0:=s) (some p) (fun q h=>by cases h; exact hplt) hE h3.1 (fun m=>?_) hB (fun j o ho hl=>opS_of (List.all_eq_true.1 hB o (List.mem_of_getElem? ho)) ((h2 j o (Nat.zero_le _) ho).2.1 (by rw [← hal j (List.getElem?_eq_some_iff.1 ho).1]; exact hl))) (fun q o' h ho'=>?_) (fun h=>by cases h) l.toArray.size (List.range l.length) (Array.replicate l.toArray.size false) β a _ (by simp) (fun j o _ hl=>?_) (fun i hi _=>List.mem_range.2 hi) (by simp) (fun j hj=>by rw [rep_no] at hj; cases hj) ?_
 · cases hl : lk (base + m) s with
   | none=>rfl
   | some b=>have:=le_nx hl; omega
 · cases h
   rw [ho] at ho'
   cases ho'
   have hq0:=(h2 p o (Nat.zero_le _) ho).1
   rw [beq_self,cond_true] at hq0
   have hok : opOK N o = true:=List.all_eq_true.1 hB o (List.mem_of_getElem? ho)
   simp only [opOK,Bool.and_eq_true] at hok
   refine ⟨i,cs,chainOf u,fun e' s' β a w hve hvs inv K Q hQ=>⟨by simp [Region.wanted,hg],?_⟩,fun D hD=>h4 _ _ ?_⟩
   · split at hq0
     · rename_i q hq
       obtain ⟨hr,hst1⟩:=callPA_rng (e1:=envD l R yes e p) hq
       exact callPA_ok hok.2 (fun y hy=>val_lk hve fun t ht=>looks_opd hy ht) (fun b hb=>by
        have:=hvs b (by rw [hndX_none hr hst1]; exact hb)
        rw [hr,map_vw0,map_vw0] at this
        exact this) hq hq0 inv K Q hQ
     · exact hq0.elim
   · rw [hst D hD l.length (Nat.le_refl _)]
     refine keepsB_st h3.2 (fun j hj=>?_) l.length
     simp only [Bool.and_eq_true] at hj
     rw [← hal j (blt_iff.1 hj.2)]
     exact hD j hj.1
 · exfalso
   rw [rep_no] at hl; cases hl
 · rw [envD_stop (i:=0) l.length (Nat.zero_le _) (fun j _=>rep_no j),stD_stop (i:=0) l.length (Nat.zero_le _) (fun j _=>rep_no j)]
   exact inv1
section
variable {ans : AnsX} {al : Nat → Bool} {fin : (Nat → Rec) → Bool} {X : Nat → Env → St → Prop} {K : Env → St → Prop} {i i' : Nat} {o : Oper} {rest : List Oper} {e e' : Env} {s s' : St} {acc acc' : List Rec}
theorem vcX_nil (h1 : fin (RL acc) = true) (h2 : K e s) : vcX P Γ ans ops base al fin i [] e s acc X K:=by
 unfold vcX; exact ⟨h1,h2⟩
theorem vcX_step {p : Prop} {x : SV} {F : Eff} (hal : al i = true) (hg : o.guard = none) (hX : X i e s) (hs : stepX P Γ ans i true o e s (base + i) = some (p,x,F)) (hp : p) (he : putO o.dst x (F.env e) = e') (hst : F.st (base + i) s = s') (hac : acc ++ [⟨x,F⟩] = acc') (hi : i + 1 = i')
 (h : vcX P Γ ans ops base al fin i' rest e' s' acc' X K) : vcX P Γ ans ops base al fin i (o :: rest) e s acc X K:=by
 subst he hst hac hi
 unfold vcX
 rw [hal,cond_true,hg,hs]
 exact ⟨hX,hp,h⟩
theorem vcX_dead (hal : al i = false) (hX : X i e s) (he : putO o.dst .junk e = e') (hac : acc ++ [⟨.junk,.none⟩] = acc') (hi : i + 1 = i')
 (h : vcX P Γ ans ops base al fin i' rest e' s acc' X K) : vcX P Γ ans ops base al fin i (o :: rest) e s acc X K:=by
 subst he hac hi
 unfold vcX
 rw [hal,cond_false]
 exact ⟨hX,h⟩
end
end
end Go.Sw
namespace Go.Sw
open Go.RowKit
section
variable {P : Program} {N : Nat} {Γ : Gl} {C : Cx P N Γ} {β : Nat → Value} {e : Env} {s : St} {a : Act} {w : World} {X : List Nat}
end
end Go.Sw
namespace Go.Sw
open Go.RowKit Go.MapKept

section
variable {P : Program}
end
section
variable {P : Program} {N : Nat} {Γ : Gl} {C : Cx P N Γ} {K : Exit → Env → St → Prop} {e : Env} {s : St}
theorem stop_sE {ops rest : List Oper} {dst : Option Tmp} {op : Op} {ty : TypeId} {pos : String} {af : Array Edge} {p : Prop} {b : Nat} {B : Box}
 (hB : regOK N (⟨dst,op,ty,pos,af,none⟩ :: rest) = true) (hs : storeE P true op e s = some (p,b,B)) (hp : p) (h : vcOps C ops rest (putO dst .junk e) (put b B s) K) : Stop C ops (⟨dst,op,ty,pos,af,none⟩ :: rest) e s K:=by
 intro β a w inv
 simp only [regOK,List.all_cons,Bool.and_eq_true,opOK] at hB
 obtain ⟨⟨hdst,ho⟩,hB'⟩:=hB
 have ih:=vcOps_ok (ops:=ops) hB' h
 refine wpList_plain rfl fun K' hK'=>storeE_ok (o:=⟨dst,op,ty,pos,af,none⟩) ho (fun _ _=>rfl) (fun _ _ _ _ _ _=>rfl) hs hp β a w inv K' _ fun β' v w' inv' _ hr=>hK' _ _ (ih β' _ _ (inv'.put dst hdst hr))
end
section
variable {P : Program} {N : Nat} {Γ : Gl} {C : Cx P N Γ}
variable {ops : List Oper} {R : Nat → Rec} {D D' : Nat → Bool} {e0 : Env} {s0 : St} {base : Nat}
end
end Go.Sw
namespace Go.Sw
open Go.RowKit
section
variable {P : Program} {N : Nat} {Γ : Gl} {C : Cx P N Γ}
end
end Go.Sw
namespace Go.Sw
open Go.RowKit
section
variable {P : Program} {N : Nat} {Γ : Gl} {C : Cx P N Γ} {K : Exit → Env → St → Prop} {e : Env} {s : St}
end
end Go.Sw
namespace Go.Sw
open Go.RowKit
section
variable {P : Program} {N : Nat} {Γ : Gl} {C : Cx P N Γ} {K : Exit → Env → St → Prop} {e : Env} {s : St}
end
end Go.Sw
namespace Go.Sw
open Go.RowKit
section
variable {P : Program} {N : Nat} {Γ : Gl} {C : Cx P N Γ} {K : Exit → Env → St → Prop} {e : Env} {s : St}
end
end Go.Sw
namespace Go.Sw
open Go.RowKit
section
variable {P : Program} {N : Nat} {Γ : Gl} {C : Cx P N Γ} {K : Exit → Env → St → Prop} {e : Env} {s : St}
end
end Go.Sw
namespace Go.Sw
open Go.RowKit
theorem UX : tyOf (And.intro @Go.Sw.stepX.eq_1 (And.intro @Go.Sw.stepX2.eq_1 (And.intro @Go.Sw.callW.eq_1 (And.intro @Go.Sw.callW.eq_2 (And.intro @Go.Sw.callWP.eq_1 (And.intro @Go.Sw.callWP.eq_2 (And.intro @Go.Sw.callPA.eq_1 (And.intro @Go.Sw.mapO.eq_1 (And.intro @Go.Sw.mapO.eq_2 (And.intro @Go.Sw.wArg.eq_1 (And.intro @Go.Sw.wArg.eq_2 (And.intro @Go.Sw.viewS.eq_1 (And.intro @Go.Sw.viewS.eq_2 (And.intro @Go.Sw.viewS.eq_3 (And.intro @Go.Sw.viewS.eq_4 (And.intro @Go.Sw.viewS.eq_5 (And.intro @Go.Sw.viewD.eq_1 (And.intro @Go.Sw.viewD.eq_2 (And.intro @Go.Sw.viewD.eq_3 (And.intro @Go.Sw.allIn.eq_1 (And.intro @Go.Sw.allIn.eq_2 (And.intro @Go.Sw.flatS.eq_1 (And.intro @Go.Sw.flatS.eq_2 (And.intro @Go.Sw.flatS.eq_3 (And.intro @Go.Sw.SV.hnd.eq_1 (And.intro @Go.Sw.SV.hnd.eq_2 (And.intro @Go.Sw.SV.hnd.eq_3 (And.intro @Go.Sw.SV.hnd.eq_4 (And.intro @Go.Sw.SV.hnd.eq_5 (And.intro @Go.Sw.SV.hnd.eq_6 (And.intro @Go.Sw.SV.hnd.eq_7 (And.intro @Go.Sw.SV.hnd.eq_8 (And.intro @Go.Sw.SV.hnd.eq_9 (And.intro @Go.Sw.SV.hnd.eq_10 (And.intro @Go.Sw.SV.hnds.eq_1 (And.intro @Go.Sw.SV.hnds.eq_2 (And.intro @Go.Sw.stepX1.eq_1 (And.intro @Go.Sw.frzR.eq_1 (And.intro @Go.Sw.frzR.eq_2 (And.intro @Go.Sw.stepX0.eq_1 (And.intro @Go.Sw.callN.eq_1 (And.intro @Go.Sw.callN.eq_2 (And.intro @Go.Sw.storeE.eq_1 (And.intro @Go.Sw.storeE.eq_2 (And.intro @Go.Sw.dAll.eq_1 (And.intro @Go.Sw.dAll.eq_2 (And.intro @Go.Sw.dAll.eq_3 (And.intro @Go.Sw.setE.eq_1 (And.intro @Go.Sw.setE.eq_2 (And.intro @Go.Sw.setE.eq_3 (And.intro @Go.Sw.callM.eq_1 (And.intro @Go.Sw.callM.eq_2 (And.intro @Go.Sw.mArgs.eq_1 (And.intro @Go.Sw.mArgs.eq_2 (And.intro @Go.Sw.SV.calm.eq_1 (And.intro @Go.Sw.SV.calm.eq_2 (And.intro @Go.Sw.SV.calm.eq_3 (And.intro @Go.Sw.SV.calm.eq_4 (And.intro @Go.Sw.SV.calms.eq_1 (And.intro @Go.Sw.SV.calms.eq_2 (And.intro @Go.Sw.callB.eq_1 (And.intro @Go.Sw.callB.eq_2 (And.intro @Go.Sw.callP.eq_1 (And.intro @Go.Sw.callP.eq_2 (And.intro @Go.Sw.bArgs.eq_1 (And.intro @Go.Sw.bArgs.eq_2 (And.intro @Go.Sw.bArgs.eq_3 (And.intro @Go.Sw.hasR.eq_1 (And.intro @Go.Sw.hasR.eq_2 (And.intro @Go.Sw.hasR.eq_3 (And.intro @Go.Sw.hins.eq_1 (And.intro @Go.Sw.hins.eq_2 (And.intro @Go.Sw.hin.eq_1 (And.intro @Go.Sw.hin.eq_2 (And.intro @Go.Sw.hin.eq_3 (And.intro @Go.Sw.hin.eq_4 (And.intro @Go.Sw.hin.eq_5 (And.intro @Go.Sw.hin.eq_6 (And.intro @Go.Sw.hin.eq_7 (And.intro @Go.Sw.hin.eq_8 (And.intro @Go.Sw.hin.eq_9 (And.intro @Go.Sw.hin.eq_10 (And.intro @Go.Sw.hin.eq_11 (And.intro @Go.Sw.hin.eq_12 (And.intro @Go.Sw.hin.eq_13 (And.intro @Go.Sw.yes.eq_1 (And.intro @Go.Sw.inX.eq_1 (And.intro @Go.Sw.inX.eq_2 (And.intro @Go.Sw.stepW.eq_1 (And.intro @Go.Sw.callR.eq_1 (And.intro @Go.Sw.callR.eq_2 (And.intro @Go.Sw.effO.eq_1 (And.intro @Go.Sw.effO.eq_2 (And.intro @Go.Sw.effO.eq_3 (And.intro @Go.Sw.effO.eq_4 (And.intro @Go.Sw.effO.eq_5 (And.intro @Go.Sw.effO.eq_6 (And.intro @Go.Sw.effO.eq_7 (And.intro @Go.Sw.srcE.eq_1 (And.intro @Go.Sw.srcE.eq_2 (And.intro @Go.Sw.srcE.eq_3 (And.intro @Go.Sw.srcE.eq_4 (And.intro @Go.Sw.srcE.eq_5 (And.intro @Go.Sw.Eff.env.eq_1 (And.intro @Go.Sw.Eff.env.eq_2 (And.intro @Go.Sw.Eff.st.eq_1 (And.intro @Go.Sw.Eff.st.eq_2 (And.intro @Go.Sw.Eff.st.eq_3 (And.intro @Go.Sw.Eff.st.eq_4 (And.intro @Go.Sw.writeOp.eq_1 (And.intro @Go.Sw.writeOp.eq_2 (And.intro @Go.Sw.writeOp.eq_3 (And.intro @Go.Sw.writeOp.eq_4 (And.intro @Go.Sw.writeOp.eq_5 (And.intro @Go.Sw.writeOp.eq_6 (And.intro @Go.Sw.callA.eq_1 (And.intro @Go.Sw.callA.eq_2 (And.intro @Go.Sw.callA.eq_3 (And.intro @Go.Sw.callA.eq_4 (And.intro @Go.Sw.pureOp.eq_1 (And.intro @Go.Sw.pureOp.eq_2 (And.intro @Go.Sw.pureOp.eq_3 (And.intro @Go.Sw.pureOp.eq_4 (And.intro @Go.Sw.pureOp.eq_5 (And.intro @Go.Sw.pureOp.eq_6 (And.intro @Go.Sw.pureOp.eq_7 (And.intro @Go.Sw.pureOp.eq_8 (And.intro @Go.Sw.pureOp.eq_9 (And.intro @Go.Sw.pureOp.eq_10 (And.intro @Go.Sw.pureOp.eq_11 (And.intro @Go.Sw.pureOp.eq_12 (And.intro @Go.Sw.pureOp.eq_13 (And.intro @Go.Sw.pureOp.eq_14 (And.intro @Go.Sw.pureOp.eq_15 (And.intro @Go.Sw.pureOp.eq_16 (And.intro @Go.Sw.pureOp.eq_17 (And.intro @Go.Sw.pureOp.eq_18 (And.intro @Go.Sw.D.flat.eq_1 (And.intro @Go.Sw.D.flat.eq_2 (And.intro @Go.Sw.D.flat.eq_3 (And.intro @Go.Sw.D.flat.eq_4 (And.intro @Go.Sw.D.flat.eq_5 (And.intro @Go.Sw.D.flats.eq_1 (And.intro @Go.Sw.D.flats.eq_2 (And.intro @Bool.or_true (And.intro @Bool.true_or (And.intro @Bool.or_self (And.intro @Bool.or_false (And.intro @Bool.false_or (And.intro @Bool.not_true (And.intro @Bool.not_false (And.intro @true_or (@or_true))))))))))))))))))))))))))))))))))))))))))))))))))))))))))))))))))))))))))))))))))))))))))))))))))))))))))))))))))))))))))))))))))))))))))))))))))))))))):=tyOk _
theorem UG : tyOf (And.intro @Go.Sw.vcA.eq_1 (And.intro @Go.Sw.vcA.eq_2 (And.intro @Go.Sw.stepA.eq_1 (And.intro @Go.Sw.callA.eq_1 (And.intro @Go.Sw.callA.eq_2 (And.intro @Go.Sw.callA.eq_3 (And.intro @Go.Sw.callA.eq_4 (And.intro @Go.Sw.rst.eq_1 (And.intro @Go.Sw.rst.eq_2 (And.intro @Go.Sw.lksA.eq_1 (And.intro @Go.Oper.looksAt.eq_1 (And.intro @Go.Op.operands.eq_1 (And.intro @Go.Op.operands.eq_2 (And.intro @Go.Op.operands.eq_3 (And.intro @Go.Op.operands.eq_4 (And.intro @Go.Op.operands.eq_5 (And.intro @Go.Op.operands.eq_6 (And.intro @Go.Op.operands.eq_7 (And.intro @Go.Op.operands.eq_8 (And.intro @Go.Op.operands.eq_9 (And.intro @Go.Op.operands.eq_10 (And.intro @Go.Op.operands.eq_11 (And.intro @Go.Op.operands.eq_12 (And.intro @Go.Op.operands.eq_13 (And.intro @Go.Op.operands.eq_14 (And.intro @Go.Op.operands.eq_15 (And.intro @Go.Op.operands.eq_16 (And.intro @Go.Op.operands.eq_17 (And.intro @Go.Op.operands.eq_18 (And.intro @Go.Op.operands.eq_19 (And.intro @Go.Op.operands.eq_20 (And.intro @Go.Op.operands.eq_21 (And.intro @Go.Op.operands.eq_22 (And.intro @Go.Op.operands.eq_23 (And.intro @Go.Op.operands.eq_24 (And.intro @Go.Op.operands.eq_25 (And.intro @Go.Op.operands.eq_26 (And.intro @Go.Op.operands.eq_27 (And.intro @Go.Op.operands.eq_28 (And.intro @Go.Op.operands.eq_29 (And.intro @Go.Op.operands.eq_30 (And.intro @Go.Op.operands.eq_31 (And.intro @Go.Op.operands.eq_32 (And.intro @Go.Op.operands.eq_33 (And.intro @Go.Op.operands.eq_34 (And.intro @Go.Op.operands.eq_35 (And.intro @Go.Op.operands.eq_36 (And.intro @Go.Op.operands.eq_37 (And.intro @Go.Op.operands.eq_38 (And.intro @Go.Op.operands.eq_39 (And.intro @Go.Op.operands.eq_40 (And.intro @Go.Op.operands.eq_41 (And.intro @Go.Op.operands.eq_42 (And.intro @Go.Op.operands.eq_43 (And.intro @Go.Sw.pureOp.eq_1 (And.intro @Go.Sw.pureOp.eq_2 (And.intro @Go.Sw.pureOp.eq_3 (And.intro @Go.Sw.pureOp.eq_4 (And.intro @Go.Sw.pureOp.eq_5 (And.intro @Go.Sw.pureOp.eq_6 (And.intro @Go.Sw.pureOp.eq_7 (And.intro @Go.Sw.pureOp.eq_8 (And.intro @Go.Sw.pureOp.eq_9 (And.intro @Go.Sw.pureOp.eq_10 (And.intro @Go.Sw.pureOp.eq_11 (And.intro @Go.Sw.pureOp.eq_12 (And.intro @Go.Sw.pureOp.eq_13 (And.intro @Go.Sw.pureOp.eq_14 (And.intro @Go.Sw.pureOp.eq_15 (And.intro @Go.Sw.pureOp.eq_16 (And.intro @Go.Sw.pureOp.eq_17 (And.intro @Go.Sw.pureOp.eq_18 (And.intro @Go.Call.operands.eq_1 (And.intro @Go.Sw.D.flat.eq_1 (And.intro @Go.Sw.D.flat.eq_2 (And.intro @Go.Sw.D.flat.eq_3 (And.intro @Go.Sw.D.flat.eq_4 (And.intro @Go.Sw.D.flat.eq_5 (And.intro @Go.Sw.D.flats.eq_1 (And.intro @Go.Sw.D.flats.eq_2 (And.intro @List.filterMap_cons.{0,0} (And.intro @List.filterMap_nil.{0,0} (And.intro @Option.toList_none.{0} (And.intro @Option.toList_some.{0} (And.intro @Option.bind_some.{0,0} (And.intro @Option.bind_none.{0,0} (And.intro @List.getElem?_toArray.{0} (And.intro @Array.toList_append.{0} (And.intro @List.append_nil.{0} (And.intro @true_or (@or_true))))))))))))))))))))))))))))))))))))))))))))))))))))))))))))))))))))))))))))))))))))))))))):=tyOk _
end Go.Sw
namespace Go.Sw
open Go.RowKit
section
variable {P : Program} {N : Nat} {Γ : Gl} {C : Cx P N Γ} {K : Exit → Env → St → Prop} {e : Env} {s : St}
end
end Go.Sw
namespace Go.Sw
open Go.RowKit

section
variable {P : Program} {N : Nat} {Γ : Gl} {C : Cx P N Γ} {K : Exit → Env → St → Prop} {e e' : Env} {s s' : St}
end

/-! ### Shifts and bits -/
section
variable {P : Program} {ev : Operand → Value} {x y : Operand} {dst : Option Tmp} {t ty r : TypeId} {pos : String} {af : Array Edge} {w : World}
end
end Go.Sw
namespace Go.Sw
open Go.RowKit
section
variable {P : Program} {N : Nat} {Γ : Gl}
theorem fn_of_defersW {f : FuncId} {fn : Func} {c : Code} (hf : P.funcs[f]? = some fn) (hb : fn.body = some c) (hname : (fn.name == "runtime.NumGoroutine") = false) (hN : fn.ntmps = N) {rs : List ResultVar} (hrs : fn.results = rs.toArray) {args : List D} {ret : D}
 (hlen : args.length ≤ N) {E : Env} {S : St} {REST : Code} {id g d : Nat} {xs : List Operand} {ty ty2 : TypeId} {p1 p2 : String} {af af2 : Array Edge} {caps : List SV} {u : Value} {ts : List (Nat × SV)}
 (hg : entB P g = true) (hd : lk d E = none) (hdN : d < N) (hxs : xs.all opdOK = true) (hcaps : vals E xs = caps) (hcr : refsAt S caps)
 (hpre : ∀ C0 : Cx P N Γ,C0.s0 = [] → ∀ (Q : Exit → Act → World → Prop),(∀ β a w,InvB C0 β E S a w → (Code.seq (.region id #[⟨some d,.makeFunc (.func g) #[] xs.toArray,ty,p1,af,none⟩,⟨none,.defer ⟨.value (.tmp d), #[], #[]⟩,ty2,p2,af2,none⟩] false) REST).wp P Q a w) →
  ∀ β a w,InvB C0 β (argE 0 args) [] a w → c.wp P Q a w)
 (hrest : ∀ C2 : Cx P N Γ,C2.s0 = S → Swp C2 REST (fun ex e s => ∃ E3 S3,Sub C2 e s E3 S3 ∧ Kdoor P Γ g caps rs ret u ts ex E3 S3) E S) : DFn P Γ f args ret:=by
 refine ⟨by simp [entB,hf,hb,hname],fun F w us hG hNG hF hargs=>?_⟩
 have inv0:=inv_enter (P:=P) (N:=N) (Γ := Γ) hG hNG hF hargs hN hlen
 refine calls_of_wp_defers hf hb (hpre _ rfl _ ?_ _ _ _ inv0)
 intro β1 a1 w1 inv1
 have hrp0:=vals_rp inv1 xs hxs
 rw [hcaps] at hrp0
 let dd : Deferred := { target:=.fn (.func g) (xs.map a1.eval).toArray,args := #[] }
 let C2 : Cx P N Γ := ⟨F, β1,S,w1,[dd],fun b hb=>(hF b hb).1⟩
 have hgo : ∀ a2 : Act,InvB C2 β1 E S a2 w1 → REST.wp P (bodyPostD P fn fun e w' => ∃ v,e = .returned v ∧ Below w.heap.size w w' ∧ RpD w' F (.d ret v)) a2 w1:=fun a2 inv2=>by
  refine wp_mono (hrest C2 rfl _ _ _ inv2) ?_
  rintro ex a3 w3 ⟨β4,e4,s4,inv4,e3,s3,hsub,hk⟩
  obtain ⟨β3,inv3⟩:=hsub _ _ _ inv4
  have hcl : ∀ i cs cs',lk i S = some (.cells cs) → lk i s3 = some (.cells cs') → β3 i = β1 i:=fun i cs cs' h1 h2=>inv3.since.cells i cs cs' h1 h2
  cases ex with
  | normal=>exact door_ok rfl rfl inv1.since hrp0 inv3 hrs hg hcl (by simp) rfl hk
  | ret=>exact door_ok rfl rfl inv1.since hrp0 inv3 hrs hg hcl (by simp) rfl hk
  | panic ch =>
   obtain ⟨rfl,hk⟩:=hk
   exact door_ok rfl rfl inv1.since hrp0 inv3 hrs hg hcl (by simp) rfl hk
  | _=>exact hk.elim
 refine wp_seq (wp_region_lit ?_)
 refine wpList_plain rfl fun K1 hK1=>?_
 unfold Oper.wp
 have hrun1 : (execOp a1.eval ⟨some d,.makeFunc (.func g) #[] xs.toArray,ty,p1,af,none⟩).run P w1 = .ok (.value (.func (.func g) #[] (xs.map a1.eval).toArray)) w1:=by
  simp [execOp,Instr.makeFunc,Sem.run_bind]
 rw [hrun1]
 refine hK1 _ _ ?_
 refine wpList_plain rfl fun K2 hK2=>?_
 unfold Oper.wp
 have hev : (a1.put (some d) (.func (.func g) #[] (xs.map a1.eval).toArray)).eval (.tmp d) = .func (.func g) #[] (xs.map a1.eval).toArray:=by
  have hsz:=inv1.size
  simp only [Act.put,Act.eval]
  rw [Array.getD_eq_getD_getElem?,Array.getElem?_setIfInBounds_self]
  simp [hsz,hdN]
 have hrun2 : (execOp (a1.put (some d) (.func (.func g) #[] (xs.map a1.eval).toArray)).eval ⟨none,.defer ⟨.value (.tmp d), #[], #[]⟩,ty2,p2,af2,none⟩).run P w1 = .ok (.defer dd) w1:=by
  simp [execOp,resolve,hev,Deferred.ofValue,Sem.run_bind,dd]
 rw [hrun2]
 refine hK2 _ _ ?_
 refine hgo _ ?_
 refine ⟨inv1.wr,inv1.base,fun t x hx=>?_,?_,?_,inv1.glob,inv1.big,⟨rfl,rfl,rfl,Nat.le_refl _,fun _ _ _=>rfl,fun i bx b h hb=>.inr ⟨i,bx,h,hb⟩,fun i c1 c2 h h2=>rfl,fun i bx h=>?_⟩⟩
 · have h1:=inv1.env t x hx
   refine ⟨h1.1,?_⟩
   have hne : t ≠ d:=fun q=>by rw [q,hd] at hx; cases hx
   have key : ∀ X : Value,X = a1.tmps.getD t undef → Rp w1 F β1 S (.s x X):=fun X h=>by rw [h]; exact h1.2
   refine key _ ?_
   simp only [Act.put]
   rw [Array.getD_eq_getD_getElem?,Array.getD_eq_getD_getElem?,Array.getElem?_setIfInBounds_ne (Ne.symm hne)]
 · have:=inv1.size
   simp [Act.put,this]
 · show dd :: a1.defers = [dd]
   rw [inv1.defers]
 · intro q; rw [show lk i S = some bx from h] at q; cases q
end
section
variable {P : Program} {N : Nat} {Γ : Gl} {C : Cx P N Γ}
variable {ops : List Oper} {R : Nat → Rec} {D D' : Nat → Bool} {e0 : Env} {s0 : St} {base : Nat}
end
end Go.Sw
namespace Go.Sw
open Go.RowKit
theorem rds_of_rss {w : World} {F : Nat → Prop} {β : Nat → Value} : ∀ {l : List D} {us : List Value},Rp w F β [] (.ss (l.map .d) us) → RpD w F (.ds l us)
 | [],us,h=>by cases h; exact .dsn
 | x :: l,us,h=>by
  cases h with
  | ssc h1 h2 =>
   cases h1 with
   | d h1=>exact .dsc (h1.keep (fun _ _ _=>rfl) (fun b _ hb=>.inl hb)) (rds_of_rss h2)
theorem sfn_of_dfn {P : Program} {Γ : Gl} {f : FuncId} {args : List D} {ret : D} (h : DFn P Γ f args ret) : SFn P Γ f (args.map .d) [] (.d ret) []:=by
 refine ⟨h.1,fun F β w us hG hN hW hl hb ha=>?_⟩
 let C : Cx P 0 Γ := ⟨F, β,[],w,[],hl⟩
 have inv : InvB C β [] [] { tmps := #[],defers:=[] } w:=⟨hW,fun i bx b h=>(by cases h),fun t x h=>(by cases h),rfl,rfl,hG,hN,⟨rfl,rfl,rfl,Nat.le_refl _,fun _ _ _=>rfl,fun i bx b h=>(by cases h),fun i c c' h=>(by cases h),fun i bx h=>(by cases h)⟩⟩
 refine (h.2 F w us hG hN (fun b hb=>⟨hl b hb,hW.low b hb⟩) (rds_of_rss ha)).mono ?_
 rintro e w' ⟨v,rfl,hbel,hr⟩
 have inv2:=inv.grow hbel
 exact ⟨v, β,rfl,inv2.wr,.d (hr.keep (fun _ _ _=>rfl) (fun b _ hm=>by
  rcases hm with hm | ⟨i,bx,h1,h2⟩
  · exact hm
  · cases h1)),inv2.since,inv2.glob,fun i bx b h=>(by cases h)⟩
theorem argF_calms {sc s : St} : ∀ {l : List SV},SV.calms l = true → argF sc s l l
 | [],_=>trivial
 | x :: l,h=>by
  simp only [SV.calms,Bool.and_eq_true] at h
  refine ⟨?_,argF_calms h.2⟩
  have h1:=h.1
  cases x <;> first
   | exact ⟨rfl,calm_hin h1⟩
   | exact ⟨rfl,rfl⟩
   | (simp [SV.calm] at h1)
mutual
theorem jk_calm (X : Nat → Bool) : ∀ {x : SV},x.calm = true → x.jk X = x
 | .fptr _ _,_=>by simp only [SV.jk]
 | .d _,_=>by simp only [SV.jk]
 | .clo f cs,h=>by simp only [SV.jk]; rw [jks_calms X (by simpa [SV.calm] using h)]
 | .nil,h=>by simp [SV.calm] at h
 | .agg _,h=>by simp [SV.calm] at h
 | .tup _,h=>by simp [SV.calm] at h
 | .ref _ _,h=>by simp [SV.calm] at h
 | .own _,h=>by simp [SV.calm] at h
 | .eref _ _ _,h=>by simp [SV.calm] at h
 | .sref _ _,h=>by simp [SV.calm] at h
 | .mp _,h=>by simp [SV.calm] at h
 | .grd _ _,h=>by simp [SV.calm] at h
 | .junk,h=>by simp [SV.calm] at h
theorem jks_calms (X : Nat → Bool) : ∀ {l : List SV},SV.calms l = true → SV.jks X l = l
 | [],_=>by simp only [SV.jks]
 | x :: l,h=>by
  simp only [SV.calms,Bool.and_eq_true] at h
  simp only [SV.jks]
  rw [jk_calm X h.1,jks_calms X h.2]
end
end Go.Sw
