/- dual.Graph of a graph that is right; a symbolic walk. -/
import Derived.Test.YtgecnlcbdbaneaaDoorHQ4
import Derived.Test.YtgecnlcbdbaneaaDoorHQ5
import Derived.Test.YtgecnlcbdbaneaaDoorShelfJ
import Derived.Test.YtgecnlcbdbaneaaDoorKD1
import Derived.Test.YtgecnlcbdbaneaaDoorSwD
-- TYPESA
set_option linter.unusedVariables false
set_option linter.unusedSimpArgs false
namespace Go.Proofs.YtgecnlcbdbaneaaDoor
open Go.RowKit Go.Sw
open _root_.List renaming getElem?_eq_getElem → za, getElem_mem → zb

def yv2 (Γ : Gl) : Prop := ∀ w, Γ.G w → Lib.TabIs Tryd.prog w "internal/strconv.uint64pow10" .u64 Lib.pow10Tab
theorem yp7 (Γ : Gl) (hΓ : yv2 Γ) (n : Int) (h0 : 0 ≤ n) (h1 : n < 1000) : DFn Tryd.prog Γ 83 [iD n] (sD (qn3 n)) :=
 ye0 (by kernel_rfl) rfl rfl fun w h=>by
  have:=Tryd.strconv_Itoa n (by omega) (by omega) w (hΓ w h)
  have e : (⟨(Lib.itoa n).toArray⟩ : ByteArray) = qn3 n:=by
   unfold qn3 xv1 Lib.itoa
   rw [if_neg (by omega)]
  rw [e] at this
  exact this.mono fun e w' ⟨he,k,os,hw⟩=>⟨he,by
   subst hw
   exact ⟨rfl,rfl,rfl,by simp [Go.Sort.grow],fun b hb=>by simp only [Go.Sort.grow];exact Array.getElem?_append_left (by simpa using hb)⟩⟩
theorem grow2 {g : List Nd} (hg : ∀ n ∈ g,NdG g.length n) (cl : List Int) (hl : cl.length = g.length) : (qh0 (qg7 cl 0 g)).length ≤ (qh0 (qg7 (qv4 (qg7 cl 0 g)) 0 g)).length:=by
 have l1:=qh4 cl g 0
 have l2:=qh4 (qv4 (qg7 cl 0 g)) g 0
 refine (vn0 (by rw [l1,l2]) fun i j hi hj e=>?_).1
 rw [l1] at hi hj
 rw [qm4 _ g 0 i g[i] (za hi),qm4 _ g 0 j g[j] (za hj),Nat.zero_add,Nat.zero_add] at e
 have hk:=key_inj (fun c hc=>(qw0 _ c hc).1) (hg _ (zb hi)) (hg _ (zb hj)) (Option.some.inj e)
 have cls : ∀ i (hi : i < (qg7 cl 0 g).length),(qv4 (qg7 cl 0 g)).getD i 0 = plK ((qg7 cl 0 g)[i]) (qh0 (qg7 cl 0 g)):=fun i hi=>by
  unfold qv4
  rw [List.getD_eq_getElem?_getD,List.getElem?_map,za hi];rfl
 have hc:=hk.2.2.2.1
 rw [cls i (by omega),cls j (by omega)] at hc
 rw [za (by omega),za (by omega),yd7 (zb _) (zb _) hc]
theorem yi4 (Γ : Gl) (hΓ : yv2 Γ) (g : List Nd) (h0 : 0 < g.length) (h2 : g.length ≤ 200) (hg : ∀ n ∈ g,NdG g.length n) : DFn Tryd.prog Γ 46 [.slc (g.map Nd.d)] (.slc ((qk0 g).map Nd.d)):=by
 have hp:=xc7 Γ 250 (by decide) (by decide) (fun n h0 h1=>yp7 Γ hΓ n h0 (by omega)) g (by omega) (fun n hn=>(hg n hn).ok) (fun cl hl hc=>grow2 hg cl hl)
 exact xp4 Γ g (by omega) h0 (fun n hn=>(hg n hn).ok) (vs5 _) hp
set_option maxHeartbeats 4000000 in
set_option maxRecDepth 100000 in
theorem yg1 (Γ : Gl) (hΓ : yv2 Γ) (g : List Nd) (h0g : 0 < g.length) (h2 : g.length ≤ 200) (hg : ∀ n ∈ g,NdG g.length n) (hs : ShG g) : DFn Tryd.prog Γ 65 [.slc (g.map Nd.d)] (.tup [.slc ((qk0 g).map Nd.d),iD 0]):=by
 have hc:=qz7 Γ g h0g h2 hg hs
 have hl:=yi4 Γ hΓ g h0g h2 hg
 generalize g.map Nd.d = A at *
 generalize (qk0 g).map Nd.d = B at *
 refine qa4 (N:=12) Tryd.func65 rfl (by decide) rfl rfl (by simp) (fun C h0=>?_)
 simp only [qj1]
 repeat' (first|(with_reducible apply zz1)|((with_reducible apply zz2);rfl;intro K' hK';simp only [WA,simprocAttr];(repeat (constructor;focus (clear hK';intros;simp_all;done)));(try (apply hK';clear hK' K')))|((with_reducible apply zz3);rfl;all_goals (intro h;try exact absurd h (by decide))))
 refine qb1 rfl (by simp only [WA,simprocAttr]) rfl rfl (hc) ?_
 simp only [WA,simprocAttr,inX,qc7,bne_self_eq_false]
 (repeat (constructor;focus (clear hK';intros;simp_all;done)))
 (try (apply hK';clear hK' K'))
 repeat' (first|(with_reducible apply zz1)|((with_reducible apply zz2);rfl;intro K' hK';simp only [WA,simprocAttr,bne_self_eq_false];(repeat (constructor;focus (clear hK';intros;simp_all;done)));(try (apply hK';clear hK' K')))|((with_reducible apply zz3);rfl;all_goals (intro h;try exact absurd h (by decide))))
 refine qb4 h0 rfl (by simp only [WA,simprocAttr]) rfl (by simp only [qe6,Option.isSome_some,WA,simprocAttr]) (hl) ?_
 simp only [WA,simprocAttr,inX,qc7, ]
 (repeat (constructor;focus (clear hK';intros;simp_all;done)))
 (try (apply hK';clear hK' K'))
 repeat' (first|(with_reducible apply zz1)|((with_reducible apply zz2);rfl;intro K' hK';simp only [WA,simprocAttr];(repeat (constructor;focus (clear hK';intros;simp_all;done)));(try (apply hK';clear hK' K')))|((with_reducible apply zz3);rfl;all_goals (intro h;try exact absurd h (by decide))))
 simp only [qf7,qd5,qa2,qd6,WA,simprocAttr]
end Go.Proofs.YtgecnlcbdbaneaaDoor
/- The law BelowOrder; a symbolic walk. -/
-- TYPESA
namespace Go.Proofs.YtgecnlcbdbaneaaDoor
open Go.RowKit Go.Sw

end Go.Proofs.YtgecnlcbdbaneaaDoor
/- dual.Of, below.Graphs, the law BelowDual; a symbolic walk. -/
-- TYPESA
namespace Go.Proofs.YtgecnlcbdbaneaaDoor
open Go.RowKit Go.Sw

def dG (x : Tp) : List Nd:=if qd9 x = 0 then qk0 (qj5 (ofP x)) else []
theorem vl8 {x : Tp} (h : qd9 x = 0) : 0 < (dG x).length ∧ (dG x).length ≤ 120 ∧ (∀ n ∈ dG x,NdG (dG x).length n) ∧ ShG (dG x) ∧ ∀ n,obs (dG x) n 0 = dT n (trT x n):=by
 obtain ⟨a1,a2,a3⟩:=vj0 h
 have hd:=vl5 a3 (yx4 h)
 have hl:=qx9 (ofP x)
 have:=vf2 (g:=qj5 (ofP x)) (by omega) hd.1
 unfold dG
 rw [if_pos h]
 refine ⟨this.1,by omega,this.2.2,vt4 hd.1 (by omega) hd.2,fun n=>?_⟩
 rw [vb6 hd.1 (by omega),xn4 a3 n 0 (by decide) (by omega),qy2 h]
set_option maxHeartbeats 8000000 in
set_option maxRecDepth 100000 in
theorem yl2 (Γ : Gl) (a b : List Nd) (a0 : 0 < a.length) (b0 : 0 < b.length) (a1 : a.length ≤ 200) (b1 : b.length ≤ 200) (ha : ∀ n ∈ a,NdG a.length n) (hb : ∀ n ∈ b,NdG b.length n) (sa : ShG a) (sb : ShG b) :
 DFn Tryd.prog Γ 25 [.slc (a.map Nd.d),.slc (b.map Nd.d)] (.tup [bD (yf2 a b).isNone,iD 0]):=by
 have hc1:=qz7 Γ a a0 a1 ha sa
 have hc2:=qz7 Γ b b0 b1 hb sb
 have hw:=why_fn Γ a b (by omega) (by omega) a0 b0 (yc9 a0 b0 ha hb)
 generalize yf2 a b = r at *
 generalize a.map Nd.d = A at *
 generalize b.map Nd.d = B at *
 cases r with
 | none =>
  simp only [yn5] at hw
  refine qa4 (N:=29) Tryd.func25 rfl (by decide) rfl rfl (by simp) (fun C h0=>?_)
  simp only [qj1]
  repeat' (first|(with_reducible apply zz1)|((with_reducible apply zz2);rfl;intro K' hK';simp only [WA,simprocAttr];(repeat (constructor;focus (clear hK';intros;simp_all;done)));(try (apply hK';clear hK' K')))|((with_reducible apply zz3);rfl;all_goals (intro h;try exact absurd h (by decide))))
  refine qb1 rfl (by simp only [WA,simprocAttr]) rfl rfl (hc1) ?_
  simp only [WA,simprocAttr,inX,qc7,bne_self_eq_false]
  (repeat (constructor;focus (clear hK';intros;simp_all;done)))
  (try (apply hK';clear hK' K'))
  repeat' (first|(with_reducible apply zz1)|((with_reducible apply zz2);rfl;intro K' hK';simp only [WA,simprocAttr,bne_self_eq_false];(repeat (constructor;focus (clear hK';intros;simp_all;done)));(try (apply hK';clear hK' K')))|((with_reducible apply zz3);rfl;all_goals (intro h;try exact absurd h (by decide))))
  refine qb1 rfl (by simp only [WA,simprocAttr]) rfl rfl (hc2) ?_
  simp only [WA,simprocAttr,inX,qc7,bne_self_eq_false]
  (repeat (constructor;focus (clear hK';intros;simp_all;done)))
  (try (apply hK';clear hK' K'))
  repeat' (first|(with_reducible apply zz1)|((with_reducible apply zz2);rfl;intro K' hK';simp only [WA,simprocAttr,bne_self_eq_false];(repeat (constructor;focus (clear hK';intros;simp_all;done)));(try (apply hK';clear hK' K')))|((with_reducible apply zz3);rfl;all_goals (intro h;try exact absurd h (by decide))))
  refine qb4 h0 rfl (by simp only [WA,simprocAttr]) rfl (by simp only [qe6,Option.isSome_some,WA,simprocAttr]) (hw) ?_
  simp only [WA,simprocAttr,inX,qc7, ]
  (repeat (constructor;focus (clear hK';intros;simp_all;done)))
  (try (apply hK';clear hK' K'))
  repeat' (first|(with_reducible apply zz1)|((with_reducible apply zz2);rfl;intro K' hK';simp only [WA,simprocAttr];(repeat (constructor;focus (clear hK';intros;simp_all;done)));(try (apply hK';clear hK' K')))|((with_reducible apply zz3);rfl;all_goals (intro h;try exact absurd h (by decide))))
  simp only [qf7,qd5,qa2,qd6,WA,simprocAttr]
  rfl
 | some w =>
  simp only [yn5] at hw
  refine qa4 (N:=29) Tryd.func25 rfl (by decide) rfl rfl (by simp) (fun C h0=>?_)
  simp only [qj1]
  repeat' (first|(with_reducible apply zz1)|((with_reducible apply zz2);rfl;intro K' hK';simp only [WA,simprocAttr];(repeat (constructor;focus (clear hK';intros;simp_all;done)));(try (apply hK';clear hK' K')))|((with_reducible apply zz3);rfl;all_goals (intro h;try exact absurd h (by decide))))
  refine qb1 rfl (by simp only [WA,simprocAttr]) rfl rfl (hc1) ?_
  simp only [WA,simprocAttr,inX,qc7,bne_self_eq_false]
  (repeat (constructor;focus (clear hK';intros;simp_all;done)))
  (try (apply hK';clear hK' K'))
  repeat' (first|(with_reducible apply zz1)|((with_reducible apply zz2);rfl;intro K' hK';simp only [WA,simprocAttr,bne_self_eq_false];(repeat (constructor;focus (clear hK';intros;simp_all;done)));(try (apply hK';clear hK' K')))|((with_reducible apply zz3);rfl;all_goals (intro h;try exact absurd h (by decide))))
  refine qb1 rfl (by simp only [WA,simprocAttr]) rfl rfl (hc2) ?_
  simp only [WA,simprocAttr,inX,qc7,bne_self_eq_false]
  (repeat (constructor;focus (clear hK';intros;simp_all;done)))
  (try (apply hK';clear hK' K'))
  repeat' (first|(with_reducible apply zz1)|((with_reducible apply zz2);rfl;intro K' hK';simp only [WA,simprocAttr,bne_self_eq_false];(repeat (constructor;focus (clear hK';intros;simp_all;done)));(try (apply hK';clear hK' K')))|((with_reducible apply zz3);rfl;all_goals (intro h;try exact absurd h (by decide))))
  refine qb4 h0 rfl (by simp only [WA,simprocAttr]) rfl (by simp only [qe6,Option.isSome_some,WA,simprocAttr]) (hw) ?_
  simp only [WA,simprocAttr,inX,qc7, ]
  (repeat (constructor;focus (clear hK';intros;simp_all;done)))
  (try (apply hK';clear hK' K'))
  repeat' (first|(with_reducible apply zz1)|((with_reducible apply zz2);rfl;intro K' hK';simp only [WA,simprocAttr];(repeat (constructor;focus (clear hK';intros;simp_all;done)));(try (apply hK';clear hK' K')))|((with_reducible apply zz3);rfl;all_goals (intro h;try exact absurd h (by decide))))
  simp only [qf7,qd5,qa2,qd6,WA,simprocAttr]
  rfl
end Go.Proofs.YtgecnlcbdbaneaaDoor
/- comply.at; a symbolic walk. -/
-- TYPESB
namespace Go.Proofs.YtgecnlcbdbaneaaDoor
open Go.RowKit Go.Sw
open _root_.List renaming range → za, length_map → zb, replicate → ze, map_nil → zh, length_range → zi

def swI (k i : Int) : Int:=if i = 0 then k else if i = k then 0 else i
def xx4 (g : List Nd) (k : Int) (i : Nat) : Nd:=⟨(gAt g (swI k i)).k,(gAt g (swI k i)).so,(gAt g (swI k i)).ls,(gAt g (swI k i)).to.map (swI k)⟩
def atP (g : List Nd) (k : Int) : List Nd:=(za g.length).map (xx4 g k)
theorem info72 : ∃ i,Tryd.prog.info? 82 = some i ∧ i.zero = some (.agg #[.int .i64 0,.int .i64 0,.slice none 0 0,.slice none 0 0]) ∧ i.size = 4 ∧ i.bytes = 64:=by
 have h : (Tryd.prog.info? 82).map (fun i=>(i.zero,i.size,i.bytes)) = some (some (.agg #[.int .i64 0,.int .i64 0,.slice none 0 0,.slice none 0 0]),4,64):=by kernel_rfl
 obtain ⟨i,hi,hz⟩:=Option.map_eq_some_iff.1 h
 simp only [Prod.mk.injEq] at hz
 exact ⟨i,hi,hz.1,hz.2.1,hz.2.2⟩
set_option maxHeartbeats 4000000 in
set_option maxRecDepth 100000 in
theorem at1_fn (Γ : Gl) (k i : Int) : SFn Tryd.prog Γ 84 [.d (iD i),.fptr (iD k) 0] [] (.d (iD (swI k i))) []:=by
 unfold swI
 by_cases h0' : i = 0
 · rw [if_pos h0']
   subst h0'
   refine qe0 (N:=12) Tryd.func84 rfl (by decide) rfl rfl (by simp) (fun C h0=>?_)
   simp only [vg9]
   repeat' (first|(with_reducible apply zz1)|((with_reducible apply zz2);rfl;intro K' hK';simp only [WB,simprocAttr,Int.reduceBEq];(repeat (constructor;focus (clear hK';intros;simp_all;done)));(try (apply hK';clear hK' K')))|((with_reducible apply zz3);rfl;all_goals (intro h;try exact absurd h (by decide))))
   simp only [qf8,qd5,qa2,qd6,US,WB,simprocAttr,h0]
 · rw [if_neg h0']
   have g0 : (i == 0) = false:=by simpa using h0'
   by_cases hk : i = k
   · subst hk
     rw [if_pos rfl]
     refine qe0 (N:=12) Tryd.func84 rfl (by decide) rfl rfl (by simp) (fun C h0=>?_)
     simp only [vg9]
     repeat' (first|(with_reducible apply zz1)|((with_reducible apply zz2);rfl;intro K' hK';simp only [WB,simprocAttr,g0,beq_self_eq_true];(repeat (constructor;focus (clear hK';intros;simp_all;done)));(try (apply hK';clear hK' K')))|((with_reducible apply zz3);rfl;all_goals (intro h;try exact absurd h (by decide))))
     simp only [qf8,qd5,qa2,qd6,US,WB,simprocAttr,h0]
   · rw [if_neg hk]
     have gk : (i == k) = false:=by simpa using hk
     refine qe0 (N:=12) Tryd.func84 rfl (by decide) rfl rfl (by simp) (fun C h0=>?_)
     simp only [vg9]
     repeat' (first|(with_reducible apply zz1)|((with_reducible apply zz2);rfl;intro K' hK';simp only [WB,simprocAttr,g0,gk];(repeat (constructor;focus (clear hK';intros;simp_all;done)));(try (apply hK';clear hK' K')))|((with_reducible apply zz3);rfl;all_goals (intro h;try exact absurd h (by decide))))
     simp only [qf8,qd5,qa2,qd6,US,WB,simprocAttr,h0]
theorem qt9 {g : List Nd} {k i : Int} (h0 : 0 < g.length) (hk : 0 ≤ k ∧ k < (g.length : Int)) (hi : 0 ≤ i ∧ i < (g.length : Int)) : 0 ≤ swI k i ∧ swI k i < (g.length : Int):=by
 unfold swI
 split
 · exact hk
 · split
   · omega
   · exact hi
abbrev yq7 : D:=.agg [iD 0,iD 0,.slc [],.slc []]
set_option maxHeartbeats 8000000 in
set_option maxRecDepth 100000 in
theorem at_fn (Γ : Gl) (g : List Nd) (k : Int) (h250 : g.length ≤ 250) (hpos : 0 < g.length) (hk : 0 ≤ k ∧ k < (g.length : Int)) (hg : ∀ n ∈ g,NdG g.length n) : DFn Tryd.prog Γ 73 [.slc (g.map Nd.d),iD k] (.slc ((atP g k).map Nd.d)):=by
 obtain ⟨i72,hi72,hz72,hs72,hb72⟩:=info72
 have hcl:=at1_fn Γ k
 refine qa4 (N:=54) Tryd.func73 rfl (by decide) rfl rfl (by simp) (fun C h0=>?_)
 simp only [qj1]
 refine ql8 ?_
 refine qh2 [(0,.d (.slc (g.map Nd.d))),(3,.fptr (iD k) 0)] [] ?_ ?_
 · repeat' (first|(with_reducible apply zz1)|((with_reducible apply zz2);rfl;intro K' hK';simp only [WB,simprocAttr];(repeat (constructor;focus (clear hK';intros;simp_all;done)));(try (apply hK';clear hK' K')))|((with_reducible apply zz3);rfl;all_goals (intro h;try exact absurd h (by decide))))
   refine ⟨rfl,?_⟩
   refine qa3 h0 ?_ ?_ ?_ <;> simp only [US,WB,simprocAttr]
 repeat' (first|(with_reducible apply zz1)|((with_reducible apply zz2);rfl;intro K' hK';simp only [WB,simprocAttr,zb];(repeat (constructor;focus (clear hK';intros;simp_all;done)));(try (apply hK';clear hK' K')))|((with_reducible apply zz3);rfl;all_goals (intro h;try exact absurd h (by decide))))
 refine xu3 (n:=g.length) (k:=4) (dz:=yq7) (zs:=[.int .i64 0,.int .i64 0,.slice none 0 0,.slice none 0 0]) rfl un26 hi72 hz72 hs72 (by decide) rfl rfl rfl (fun w M=>.dsc (.v _ rfl) (.dsc (.v _ rfl) (.dsc (.slc0 _ _) (.dsc (.slc0 _ _) .dsn)))) (by decide) rfl rfl (by rw [hb72];omega) (by unfold maxLen;omega) rfl ?_
 simp only [WB,simprocAttr]
 (try (apply hK';clear hK' K'))
 repeat' (first|(with_reducible apply zz1)|((with_reducible apply zz2);rfl;intro K' hK';simp only [WB,simprocAttr,zb];(repeat (constructor;focus (clear hK';intros;simp_all;done)));(try (apply hK';clear hK' K')))|((with_reducible apply zz3);rfl;all_goals (intro h;try exact absurd h (by decide))))
 refine qd3 (α := Nat) (fun i=>[(0,.d (.slc (g.map Nd.d))),(5,.clo 84 [.fptr (iD k) 0]),(6,.own 0),(16,.d (.slc (g.map Nd.d))),(17,.d (iD g.length)),(18,.d (iD i))]) (fun i=>[(0,.row 4 ((za i).map (fun j=>(xx4 g k j).d) ++ ze (g.length - i) yq7))])
  (fun i=>i ≤ g.length) (fun i=>g.length - i) 0 (Nat.zero_le _) (by refine qa3 h0 ?_ ?_ ?_ <;> simp only [US,WB,simprocAttr,List.range_zero,zh,Nat.sub_zero]) (fun i hi=>?_)
 have hi : i ≤ g.length:=hi
 have hb0 : (0 : Int) ≤ (i : Int):=by omega
 by_cases hlt : i < g.length
 · have hb1 : (i : Int) < (g.length : Int):=by omega
   have hw3 : IntKind.i64.wrap ((i : Int) + 1) = ((i + 1 : Nat) : Int):=by rw [qd7 (by omega) (by omega)];omega
   have hcall:=hcl (i : Int)
   have hsr:=qt9 hpos hk ⟨hb0,hb1⟩
   have hx : (g.map Nd.d).getD (swI k i).toNat default = (gAt g (swI k i)).d:=qq3 hsr.1 hsr.2
   have hok:=(hg _ (qd0 hsr.1 hsr.2)).ok
   have hto:=hok.to
   have hr:=hok.r
   have hat : (xx4 g k i).d = .agg [iD (gAt g (swI k i)).k,iD (gAt g (swI k i)).so,.slc ((gAt g (swI k i)).ls.map sD),.slc (((gAt g (swI k i)).to.map (swI k)).map iD)]:=rfl
   have hML : ((za i).map (fun j=>(xx4 g k j).d) ++ ze (g.length - i) yq7).length = g.length:=by simp;omega
   have hMg : ((za i).map (fun j=>(xx4 g k j).d) ++ ze (g.length - i) yq7).getD i default = yq7:=by
    rw [List.getD_eq_getElem?_getD,List.getElem?_append_right (by simp),zb,zi,Nat.sub_self,List.getElem?_replicate,if_pos (by omega)]
    rfl
   have hMs : ((za i).map (fun j=>(xx4 g k j).d) ++ ze (g.length - i) yq7).set i (xx4 g k i).d = (za (i + 1)).map (fun j=>(xx4 g k j).d) ++ ze (g.length - (i + 1)) yq7:=by
    rw [show g.length - i = (g.length - (i + 1)) + 1 by omega,List.replicate_succ,List.set_append_right _ _ (by simp),zb,zi,Nat.sub_self,List.set_cons_zero,List.range_succ,List.map_append,List.append_assoc]
    rfl
   rw [hat] at hMs
   obtain ⟨M,hM⟩ : ∃ M,(za i).map (fun j=>(xx4 g k j).d) ++ ze (g.length - i) yq7 = M:=⟨_,rfl⟩
   rw [hM] at hML hMg hMs ⊢
   generalize gAt g (swI k i) = X at *
   obtain ⟨xk,xso,xls,xto⟩:=X
   simp only [Nd.d] at hx
   simp only at hto hr hMs
   obtain ⟨q,hq⟩ : ∃ q,swI k i = q:=⟨_,rfl⟩
   rw [hq] at hcall hsr hx
   have hs0:=hsr.1
   have hs1:=hsr.2
   repeat' (first|(with_reducible apply zz1)|((with_reducible apply zz2);rfl;intro K' hK';simp only [WB,simprocAttr,zb,hb1];(repeat (constructor;focus (clear hK';intros;simp_all;done)));(try (apply hK';clear hK' K')))|((with_reducible apply zz3);rfl;all_goals (intro h;try exact absurd h (by decide))))
   refine qf3 rfl rfl (by simp only [UA,WB,simprocAttr]) (by simp only [UA,WB,simprocAttr]) (by simp only [UA,WB,simprocAttr]) (by simp only [UA,WB,simprocAttr]) (by simp only [UA,WB,simprocAttr]) (hcall ) ?_
   simp only [WB,simprocAttr,UM,  hs0,hs1,hx,zb]
   (try (apply hK';clear hK' K'))
   refine qo9 ?_
   refine ql8 ?_
   (with_reducible refine qg2 ?_ (fun K' hK'=>?_)
    · rfl
    simp only [WB,simprocAttr]
    (repeat (constructor;focus (clear hK';intros;simp_all;done))))
   refine hK' _ _ ?_
   clear hK' K'
   refine qo9 ?_
   refine qm9 9 2 1 rfl rfl (by decide) ?_
   simp only [WB,simprocAttr]
   repeat' (first|(with_reducible apply zz1)|((with_reducible apply zz2);rfl;intro K' hK';simp only [WB,simprocAttr,zb];(repeat (constructor;focus (clear hK';intros;simp_all;done)));(try (apply hK';clear hK' K')))|((with_reducible apply zz3);rfl;all_goals (intro h;try exact absurd h (by decide))))
   refine qd3 (α := Nat) (fun j=>[(0,.d (.slc (g.map Nd.d))),(5,.clo 84 [.fptr (iD k) 0]),(6,.own 0),(16,.d (.slc (g.map Nd.d))),(17,.d (iD g.length)),(18,.d (iD i)),(7,.d (iD i)),(8,.ref 1 0),(9,.own 2),(28,.d (.slc (xto.map iD))),(29,.d (iD xto.length)),(30,.d (iD j))])
    (fun j=>[(0,.row 4 M),(1,.cells [.d (iD xk),.d (iD xso),.d (.slc (xls.map sD)),.d (.slc (xto.map iD))]),(2,.row 1 (((xto.take j).map (swI k)).map iD))])
    (fun j=>j ≤ xto.length) (fun j=>xto.length - j) 0 (Nat.zero_le _) (by refine qa3 h0 ?_ ?_ ?_ <;> simp only [US,WB,simprocAttr,List.take_zero,zh]) (fun j hj=>?_)
   have hj : j ≤ xto.length:=hj
   have hj0 : (0 : Int) ≤ (j : Int):=by omega
   by_cases hjl : j < xto.length
   · obtain ⟨y,hy⟩ : ∃ y,xto[j]? = some y:=⟨xto[j],by simp [hjl]⟩
     have hyg : (xto.map iD).getD j default = iD y:=by simp [List.getD,hy]
     have hj1 : (j : Int) < (xto.length : Int):=by omega
     have hw2 : IntKind.i64.wrap ((j : Int) + 1) = ((j + 1 : Nat) : Int):=by rw [qd7 (by omega) (by omega)];omega
     have hcy:=hcl y
     have hm : ((xto.take j).map (swI k)).map iD ++ [iD (swI k y)] = ((xto.take (j + 1)).map (swI k)).map iD:=by
      rw [List.take_add_one,hy];simp
     have hml : (((xto.take j).map (swI k)).map iD).length = j:=by simp;omega
     obtain ⟨A,hA⟩ : ∃ A,((xto.take j).map (swI k)).map iD = A:=⟨_,rfl⟩
     rw [hA] at hm hml ⊢
     obtain ⟨r,hrr⟩ : ∃ r,swI k y = r:=⟨_,rfl⟩
     rw [hrr] at hcy hm
     have hn5 : (j + 1) * 8 ≤ 140737488355328:=by omega
     have hn6 : j + 1 ≤ maxLen:=by unfold maxLen;omega
     repeat' (first|(with_reducible apply zz1)|((with_reducible apply zz2);rfl;intro K' hK';simp only [WB,simprocAttr,Int.toNat_natCast,hyg,hj0,hj1,zb];(repeat (constructor;focus (clear hK';intros;simp_all;done)));(try (apply hK';clear hK' K')))|((with_reducible apply zz3);rfl;all_goals (intro h;try exact absurd h (by decide))))
     refine qf3 rfl rfl (by simp only [UA,WB,simprocAttr]) (by simp only [UA,WB,simprocAttr]) (by simp only [UA,WB,simprocAttr]) (by simp only [UA,WB,simprocAttr]) (by simp only [UA,WB,simprocAttr]) (hcy ) ?_
     simp only [WB,simprocAttr,UM,  hml,hn5,hn6,hm]
     (try (apply hK';clear hK' K'))
     repeat' (first|(with_reducible apply zz1)|((with_reducible apply zz2);rfl;intro K' hK';simp only [WB,simprocAttr,hw2];(repeat (constructor;focus (clear hK';intros;simp_all;done)));(try (apply hK';clear hK' K')))|((with_reducible apply zz3);rfl;all_goals (intro h;try exact absurd h (by decide))))
     refine ⟨j + 1,(by show j + 1 ≤ xto.length;omega),(by show xto.length - (j + 1) < xto.length - j;omega),by refine qa3 h0 ?_ ?_ ?_ <;> simp only [US,WB,simprocAttr]⟩
   · have hj1 : ¬ (j : Int) < (xto.length : Int):=by omega
     rw [List.take_of_length_le (by omega)]
     refine ql3 [2] h0 (by simp only [Option.isSome_some,UF,WB,simprocAttr]) ?_
     simp only [WB,simprocAttr,UF]
     repeat' (first|(with_reducible apply zz1)|((with_reducible apply zz2);rfl;intro K' hK';simp only [WB,simprocAttr,hj1,Int.toNat_natCast,hb0,hb1,hML,hMg];(repeat (constructor;focus (clear hK';intros;simp_all;done)));(try (apply hK';clear hK' K')))|((with_reducible apply zz3);rfl;all_goals (intro h;try exact absurd h (by decide))))
     refine qt6 rfl (by simp only [WB,simprocAttr,qj8,xx6,xk0,Option.map_some,hMg,hMs];rfl) ?_ ?_
     · first | trivial | ((repeat' constructor) <;> first | trivial | assumption | (clear hK';intros;simp_all;done))
     simp only [WB,simprocAttr,hMg,hMs]
     (repeat (constructor;focus (clear hK';intros;simp_all;done)))
     (try (apply hK';clear hK' K'))
     -- TRACE
     repeat' (first|(with_reducible apply zz1)|((with_reducible apply zz2);rfl;intro K' hK';simp only [WB,simprocAttr,hw3];(repeat (constructor;focus (clear hK';intros;simp_all;done)));(try (apply hK';clear hK' K')))|((with_reducible apply zz3);rfl;all_goals (intro h;try exact absurd h (by decide))))
     refine ⟨i + 1,(by show i + 1 ≤ g.length;omega),(by show g.length - (i + 1) < g.length - i;omega),by refine qa3 h0 ?_ ?_ ?_ <;> simp only [US,WB,simprocAttr]⟩
 · have hb1 : ¬ (i : Int) < (g.length : Int):=by omega
   have hie : i = g.length:=by omega
   subst hie
   have he : (za g.length).map (fun j=>(xx4 g k j).d) ++ ze (g.length - g.length) yq7 = (atP g k).map Nd.d:=by simp [atP]
   rw [he]
   repeat' (first|(with_reducible apply zz1)|((with_reducible apply zz2);rfl;intro K' hK';simp only [WB,simprocAttr,hb1];(repeat (constructor;focus (clear hK';intros;simp_all;done)));(try (apply hK';clear hK' K')))|((with_reducible apply zz3);rfl;all_goals (intro h;try exact absurd h (by decide))))
   simp only [qf7,qd5,qa2,qd6,WB,simprocAttr]
end Go.Proofs.YtgecnlcbdbaneaaDoor
