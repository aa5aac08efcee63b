/- below.index, below.bound's strike; a symbolic walk. -/
import Derived.Test.YtgecnlcbdbaneaaDoorKD6
import Derived.Test.YtgecnlcbdbaneaaDoorKD1
-- TYPESD
set_option linter.unusedVariables false
set_option linter.unusedSimpArgs false
namespace Go.Proofs.YtgecnlcbdbaneaaDoor
open Go.RowKit Go.Sw

set_option maxHeartbeats 4000000 in
set_option maxRecDepth 100000 in
theorem xr5 (Γ : Gl) {g : List Nd} (Hg : Gd g) (i : Int) (l : ByteArray) (hi : i = -1 ∨ inr g i) : DFn Tryd.prog Γ 87 [.slc (g.map Nd.d),iD i,sD l] (iD (ixY g i l)):=by
 unfold ixY
 by_cases h1 : i = -1
 · rw [if_pos h1]
   have g1 : (i == -1) = true:=by simpa using h1
   refine qa4 (N:=16) Tryd.func87 rfl (by decide) rfl rfl (by simp) (fun C h0=>?_)
   simp only [qj1]
   repeat' (first|(with_reducible apply zz1)|((with_reducible apply zz2);rfl;intro K' hK';simp only [WD,simprocAttr,g1];(repeat (constructor;focus (clear hK';intros;simp_all;done)));(try (apply hK';clear hK' K')))|((with_reducible apply zz3);rfl;all_goals (intro h;try exact absurd h (by decide))))
   simp only [qf7,qd5,qa2,qd6,WD,simprocAttr]
 · rw [if_neg h1]
   have hr : inr g i:=hi.elim (fun e=>absurd e h1) id
   have g1 : (i == -1) = false:=by simpa using h1
   have hga:=qq3 hr.1 hr.2
   have hls:=(Hg.ok _ (qd0 hr.1 hr.2)).ok.ls
   have hI:=qm5 Γ (gAt g i).ls l (by omega)
   have r1:=hr.1
   have r2:=hr.2
   unfold ixL
   generalize gAt g i = X at *
   obtain ⟨xk,xso,xls,xto⟩:=X
   simp only [Nd.d] at hga
   simp only at hI
   refine qa4 (N:=16) Tryd.func87 rfl (by decide) rfl rfl (by simp) (fun C h0=>?_)
   simp only [qj1]
   repeat' (first|(with_reducible apply zz1)|((with_reducible apply zz2);rfl;intro K' hK';simp only [WD,simprocAttr,g1,r1,r2,hga,List.length_map];(repeat (constructor;focus (clear hK';intros;simp_all;done)));(try (apply hK';clear hK' K')))|((with_reducible apply zz3);rfl;all_goals (intro h;try exact absurd h (by decide))))
   refine qb1 rfl (by simp only [WD,simprocAttr]) rfl rfl (hI) ?_
   simp only [WD,simprocAttr,inX,qc7, ]
   (repeat (constructor;focus (clear hK';intros;simp_all;done)))
   (try (apply hK';clear hK' K'))
   repeat' (first|(with_reducible apply zz1)|((with_reducible apply zz2);rfl;intro K' hK';simp only [WD,simprocAttr];(repeat (constructor;focus (clear hK';intros;simp_all;done)));(try (apply hK';clear hK' K')))|((with_reducible apply zz3);rfl;all_goals (intro h;try exact absurd h (by decide))))
   simp only [qf7,qd5,qa2,qd6,WD,simprocAttr]
end Go.Proofs.YtgecnlcbdbaneaaDoor
/- below.bound's strike; a symbolic walk. -/
-- TYPESD
namespace Go.Proofs.YtgecnlcbdbaneaaDoor
open Go.RowKit Go.Sw
open _root_.List renaming length_map → za, getD → zh, range → zi
open _root_.Int renaming toNat_natCast → zb
open _root_.Bool renaming not_true → ze, not_false → zf, true_and → zo

def bdC (A B : List Nd) : List SV:=[.d (.slc (A.map Nd.d)),.d (.slc (B.map Nd.d)),.mp 1,.own 2,.own 3,.own 4]
def qw3 (s : Bd) (F : List Bool) (j : Nat) : List Bool:=(zi j).foldl (xw5 s) F
theorem ya9 (s : Bd) (F : List Bool) (j : Nat) : qw3 s F (j + 1) = xw5 s (qw3 s F j) j:=by
 unfold qw3
 rw [List.range_succ,List.foldl_append]
 rfl
theorem strJ_ok {s : Bd} {F : List Bool} (hF : F.length = s.ks.length) {j : Nat} (hj : j ≤ s.ks.length) : (qw3 s F j).length = F.length ∧ qs3 F ≤ qs3 (qw3 s F j) ∧ (qs3 F = qs3 (qw3 s F j) → qw3 s F j = F):=by
 have h:=vi7 s (zi j) F (fun i hi=>by have:=List.mem_range.1 hi;omega)
 unfold qw3
 refine ⟨h.1.ln,?_,fun e=>?_⟩
 · rcases h.2 with ⟨-,e⟩ | e
   · rw [e];exact Nat.le_refl _
   · omega
 · rcases h.2 with ⟨-,e'⟩ | e'
   · exact e'
   · omega
theorem ya7 (F : List Bool) (l : List Int) (t : Int) : vg3 F (l ++ [t]) = vg3 F l + (if fAt F t = true then 1 else 0):=by
 unfold vg3
 rw [List.filter_append,List.length_append]
 congr 1
 rw [List.filter_cons]
 split <;> simp
theorem badN_le (F : List Bool) (l : List Int) : vg3 F l ≤ l.length:=List.length_filter_le _ _
def Hid (p : Prop) : Prop:=p
set_option maxHeartbeats 16000000 in
set_option maxRecDepth 100000 in
theorem yj6 (Γ : Gl) (A B : List Nd) (M : List (Value × Value)) (s : Bd) (h1 : s.ns.length = s.ks.length) (h2 : s.sm.length = s.ks.length) (h3 : s.fl.length = s.ks.length) (hn : s.ks.length ≤ 100000)
 (hto : ∀ j,j < s.ks.length → (qj2 s j).length ≤ 12 ∧ ∀ t ∈ qj2 s j,0 ≤ t ∧ t < (s.ks.length : Int)) :
 SFn Tryd.prog Γ 75 [.ref 0 0] [(0,.cells (bdC A B)),(1,.mp M),(2,.row 4 (s.ns.map Nd.d)),(3,.row 1 (s.sm.map bD)),(4,.row 1 (s.fl.map bD))] (.tup [])
  [(0,.cells (bdC A B)),(1,.mp M),(2,.row 4 (s.ns.map Nd.d)),(3,.row 1 (s.sm.map bD)),(4,.row 1 ((qa7 s).map bD))]:=by
 obtain ⟨R,hR⟩ : ∃ R,qa7 s = R:=⟨_,rfl⟩
 rw [hR]
 unfold qa7 at hR
 simp only [bdC]
 refine qe0 (N:=69) Tryd.func75 rfl (by decide) rfl rfl (by simp) (fun C h0=>?_)
 simp only [vg9]
 repeat' (first|(with_reducible apply zz1)|((with_reducible apply zz2);rfl;intro K' hK';simp only [WD,simprocAttr];(repeat (constructor;focus (clear hK';intros;simp_all;done)));(try (apply hK';clear hK' K')))|((with_reducible apply zz3);rfl;all_goals (intro h;try exact absurd h (by decide))))
 refine qd3 (α := Bool × List Bool) (fun q=>[(0,.ref 0 0),(2,.d (bD q.1))]) (fun q=>[(0,.cells [.d (.slc (A.map Nd.d)),.d (.slc (B.map Nd.d)),.mp 1,.own 2,.own 3,.own 4]),(1,.mp M),(2,.row 4 (s.ns.map Nd.d)),(3,.row 1 (s.sm.map bD)),(4,.row 1 (q.2.map bD))])
  (fun q=>q.2.length = s.ks.length ∧ ((q.1 = true → ∃ f,strF s f q.2 = R ∧ s.ks.length + 1 ≤ f + qs3 q.2) ∧ (q.1 = false → q.2 = R))) (fun q=>if q.1 = true then s.ks.length + 2 - qs3 q.2 else 0) (true,s.fl) ⟨h3,(fun _=>⟨_,hR,by omega⟩),(fun h=>by cases h)⟩ (by refine qa3 h0 ?_ ?_ ?_ <;> simp only [US,WD,simprocAttr]) (fun q hq=>?_)
 obtain ⟨m,F⟩:=q
 obtain ⟨hF,hT,hf⟩:=hq
 simp only at hF hT hf
 cases m with
 | false =>
  obtain rfl:=hf rfl
  repeat' (first|(with_reducible apply zz1)|((with_reducible apply zz2);rfl;intro K' hK';simp only [WD,simprocAttr];(repeat (constructor;focus (clear hK';intros;simp_all;done)));(try (apply hK';clear hK' K')))|((with_reducible apply zz3);rfl;all_goals (intro h;try exact absurd h (by decide))))
  simp only [qf8,qd5,qa2,qd6,US,WD,simprocAttr,h0]
 | true =>
 obtain ⟨f,hR,hcf⟩:=hT rfl
 have hcl:=xk8 F
 repeat' (first|(with_reducible apply zz1)|((with_reducible apply zz2);rfl;intro K' hK';simp only [WD,simprocAttr,za];(repeat (constructor;focus (clear hK';intros;simp_all;done)));(try (apply hK';clear hK' K')))|((with_reducible apply zz3);rfl;all_goals (intro h;try exact absurd h (by decide))))
 -- TRACE
 refine qd3 (α := Nat) (fun j=>[(0,.ref 0 0),(2,.d (bD (decide (qs3 F < qs3 (qw3 s F j))))),(12,.own 2),(13,.d (iD s.ns.length)),(14,.d (iD j))]) (fun j=>[(0,.cells [.d (.slc (A.map Nd.d)),.d (.slc (B.map Nd.d)),.mp 1,.own 2,.own 3,.own 4]),(1,.mp M),(2,.row 4 (s.ns.map Nd.d)),(3,.row 1 (s.sm.map bD)),(4,.row 1 ((qw3 s F j).map bD))])
  (fun j=>j ≤ s.ks.length) (fun j=>s.ks.length - j) 0 (Nat.zero_le _) (by refine qa3 h0 ?_ ?_ ?_ <;> simp only [US,WD,simprocAttr,za,qw3,List.range_zero,List.foldl_nil,Nat.lt_irrefl,decide_false]) (fun j hj=>?_)
 have hj : j ≤ s.ks.length:=hj
 have hj0 : (0 : Int) ≤ (j : Int):=by omega
 obtain ⟨e1,e2,e3⟩:=strJ_ok hF hj
 by_cases hlt : j < s.ks.length
 rotate_left
 · have hj1 : ¬ (j : Int) < (s.ns.length : Int):=by omega
   have hjn : j = s.ks.length:=by omega
   subst hjn
   have hRd : qw3 s F s.ks.length = yv6 s F:=rfl
   repeat' (first|(with_reducible apply zz1)|((with_reducible apply zz2);rfl;intro K' hK';simp only [WD,simprocAttr,hj1];(repeat (constructor;focus (clear hK';intros;simp_all;done)));(try (apply hK';clear hK' K')))|((with_reducible apply zz3);rfl;all_goals (intro h;try exact absurd h (by decide))))
   obtain ⟨f,rfl⟩ : ∃ f',f = f' + 1:=⟨f - 1,by omega⟩
   unfold strF at hR
   by_cases hc : qs3 F < qs3 (qw3 s F s.ks.length)
   · have hne : yv6 s F ≠ F:=fun e=>by rw [hRd,e] at hc;omega
     rw [if_neg hne, ← hRd] at hR
     have hcl2:=xk8 (qw3 s F s.ks.length)
     refine ⟨(true,qw3 s F s.ks.length),⟨by show (qw3 s F s.ks.length).length = _;omega,(fun _=>⟨f,hR,by show _ ≤ f + qs3 (qw3 s F s.ks.length);omega⟩),(fun h=>by cases h)⟩,(by show (if true = true then _ else _) < (if true = true then _ else _);rw [if_pos rfl,if_pos rfl];show s.ks.length + 2 - qs3 (qw3 s F s.ks.length) < s.ks.length + 2 - qs3 F;omega),by simp only [hc,decide_true];refine qa3 h0 ?_ ?_ ?_ <;> simp only [US,WD,simprocAttr]⟩
   · have he : qw3 s F s.ks.length = F:=e3 (by omega)
     rw [if_pos (by rw [← hRd];exact he)] at hR
     refine ⟨(false,F),⟨hF,(fun h=>by cases h),(fun _=>hR)⟩,(by show (if false = true then _ else _) < (if true = true then _ else _);rw [if_neg (by decide),if_pos rfl];show 0 < s.ks.length + 2 - qs3 F;omega),by simp only [he,Nat.lt_irrefl,decide_false];refine qa3 h0 ?_ ?_ ?_ <;> simp only [US,WD,simprocAttr]⟩
 have hj1 : (j : Int) < (s.ns.length : Int):=by omega
 have hj2 : (j : Int) < ((qw3 s F j).length : Int):=by omega
 have hj3 : (j : Int) < (s.sm.length : Int):=by omega
 have hw3 : IntKind.i64.wrap ((j : Int) + 1) = ((j + 1 : Nat) : Int):=by rw [qd7 (by omega) (by omega)];omega
 have hgn : (s.ns.map Nd.d).getD j default = (s.ns.getD j n0).d:=by simp [zh,show j < s.ns.length by omega]
 have hgf : ∀ (F : List Bool) (i : Nat),i < F.length → (F.map bD).getD i default = bD (F.getD i false):=fun F i hi=>by simp [zh,hi]
 have hg1:=hgf (qw3 s F j) j (by omega)
 have hg3:=hgf s.sm j (by omega)
 obtain ⟨t6,tr⟩:=hto j hlt
 have hsucc:=ya9 s F j
 generalize hG : qw3 s F j = G at *
 have hstr : yj7 s G j = (!(G.getD j false) && (decide (0 < vg3 G (qj2 s j)) && (!(s.sm.getD j false) || decide (vg3 G (qj2 s j) = (qj2 s j).length)))):=rfl
 have hT : (s.ns.getD j n0).to = qj2 s j:=rfl
 generalize s.ns.getD j n0 = X at *
 obtain ⟨xk,xso,xls,xto⟩:=X
 simp only at hT
 subst hT
 simp only [Nd.d] at hgn
 cases hfj : G.getD j false with
 | true =>
  rw [hfj] at hg1 hstr
  simp only [ze,Bool.false_and] at hstr
  have hs' : qw3 s F (j + 1) = G:=by rw [hsucc];unfold xw5;rw [if_neg (by rw [hstr];decide)]
  repeat' (first|(with_reducible apply zz1)|((with_reducible apply zz2);rfl;intro K' hK';simp only [WD,simprocAttr,zb,hj0,hj1,hj2,hgn,hg1,za,hw3];(repeat (constructor;focus (clear hK';intros;simp_all;done)));(try (apply hK';clear hK' K')))|((with_reducible apply zz3);rfl;all_goals (intro h;try exact absurd h (by decide))))
  refine ⟨j + 1,(by show j + 1 ≤ s.ks.length;omega),(by show s.ks.length - (j + 1) < s.ks.length - j;omega),by simp only [hs'];refine qa3 h0 ?_ ?_ ?_ <;> simp only [US,WD,simprocAttr]⟩
 | false =>
 rw [hfj] at hg1 hstr
 simp only [zf,zo] at hstr
 repeat' (first|(with_reducible apply zz1)|((with_reducible apply zz2);rfl;intro K' hK';simp only [WD,simprocAttr,zb,hj0,hj1,hj2,hgn,hg1,za];(repeat (constructor;focus (clear hK';intros;simp_all;done)));(try (apply hK';clear hK' K')))|((with_reducible apply zz3);rfl;all_goals (intro h;try exact absurd h (by decide))))
 -- TRACE
 refine qd3 (α := Nat) (fun i=>[(0,.ref 0 0),(2,.d (bD (decide (qs3 F < qs3 G)))),(12,.own 2),(13,.d (iD s.ns.length)),(14,.d (iD j)),(3,.d (iD j)),(4,.ref 5 0),(5,.d (iD (vg3 G ((qj2 s j).take i)))),(27,.d (.slc ((qj2 s j).map iD))),(28,.d (iD (qj2 s j).length)),(29,.d (iD i))]) (fun i=>[(0,.cells [.d (.slc (A.map Nd.d)),.d (.slc (B.map Nd.d)),.mp 1,.own 2,.own 3,.own 4]),(1,.mp M),(2,.row 4 (s.ns.map Nd.d)),(3,.row 1 (s.sm.map bD)),(4,.row 1 (G.map bD)),(5,.cells [.d (iD xk),.d (iD xso),.d (.slc (xls.map sD)),.d (.slc ((qj2 s j).map iD))])])
  (fun i=>i ≤ (qj2 s j).length) (fun i=>(qj2 s j).length - i) 0 (Nat.zero_le _) (by refine qa3 h0 ?_ ?_ ?_ <;> simp only [US,WD,simprocAttr,za,List.take_zero,vg3,List.filter_nil]) (fun i hi=>?_)
 have hi : i ≤ (qj2 s j).length:=hi
 have hi0 : (0 : Int) ≤ (i : Int):=by omega
 have hble:=badN_le G ((qj2 s j).take i)
 rw [List.length_take] at hble
 by_cases hil : i < (qj2 s j).length
 · obtain ⟨t,ht⟩ : ∃ t,(qj2 s j)[i]? = some t:=⟨(qj2 s j)[i],by simp [hil]⟩
   have htr:=tr t (List.mem_of_getElem? ht)
   have hgt : ((qj2 s j).map iD).getD i default = iD t:=by simp [zh,ht]
   have hi1 : (i : Int) < ((qj2 s j).length : Int):=by omega
   have hw2 : IntKind.i64.wrap ((i : Int) + 1) = ((i + 1 : Nat) : Int):=by rw [qd7 (by omega) (by omega)];omega
   have hg2:=hgf G t.toNat (by omega)
   have t0:=htr.1
   have t1 : t < (G.length : Int):=by omega
   have htk : (qj2 s j).take (i + 1) = (qj2 s j).take i ++ [t]:=by rw [List.take_add_one,ht];rfl
   have hbn:=ya7 G ((qj2 s j).take i) t
   rw [← htk] at hbn
   unfold fAt at hbn
   have hwb : IntKind.i64.wrap (((vg3 G ((qj2 s j).take i) : Nat) : Int) + 1) = ((vg3 G ((qj2 s j).take i) + 1 : Nat) : Int):=by rw [qd7 (by omega) (by omega)];omega
   cases hft : G.getD t.toNat false with
   | true =>
    rw [hft] at hg2 hbn
    rw [if_pos rfl] at hbn
    repeat' (first|(with_reducible apply zz1)|((with_reducible apply zz2);rfl;intro K' hK';simp only [WD,simprocAttr,zb,hi0,hi1,hgt,t0,t1,hg2,hw2,hwb,za];(repeat (constructor;focus (clear hK';intros;simp_all;done)));(try (apply hK';clear hK' K')))|((with_reducible apply zz3);rfl;all_goals (intro h;try exact absurd h (by decide))))
    refine ⟨i + 1,(by show i + 1 ≤ (qj2 s j).length;omega),(by show (qj2 s j).length - (i + 1) < (qj2 s j).length - i;omega),by simp only [hbn];refine qa3 h0 ?_ ?_ ?_ <;> simp only [US,WD,simprocAttr]⟩
   | false =>
    rw [hft] at hg2 hbn
    rw [if_neg (by decide),Nat.add_zero] at hbn
    repeat' (first|(with_reducible apply zz1)|((with_reducible apply zz2);rfl;intro K' hK';simp only [WD,simprocAttr,zb,hi0,hi1,hgt,t0,t1,hg2,hw2,za];(repeat (constructor;focus (clear hK';intros;simp_all;done)));(try (apply hK';clear hK' K')))|((with_reducible apply zz3);rfl;all_goals (intro h;try exact absurd h (by decide))))
    refine ⟨i + 1,(by show i + 1 ≤ (qj2 s j).length;omega),(by show (qj2 s j).length - (i + 1) < (qj2 s j).length - i;omega),by simp only [hbn];refine qa3 h0 ?_ ?_ ?_ <;> simp only [US,WD,simprocAttr]⟩
 · have hi1 : ¬ (i : Int) < ((qj2 s j).length : Int):=by omega
   rw [List.take_of_length_le (by omega)]
   have hset : (G.map bD).set j (bD true) = (G.set j true).map bD:=by rw [List.map_set]
   have hgd4 : (G.map bD).getD j default = bD false:=hg1
   cases hc : yj7 s G j with
   | true =>
    rw [hc] at hstr
    have hs' : qw3 s F (j + 1) = G.set j true:=by rw [hsucc];unfold xw5;rw [if_pos hc]
    have hcnt:=xh1 (l:=G) (j:=j) (by omega) hfj
    have hdec : decide (qs3 F < qs3 (G.set j true)) = true:=by rw [hcnt];exact decide_eq_true (by omega)
    -- what the walk asks
    have hb : decide (0 < vg3 G (qj2 s j)) = true ∧ (s.sm.getD j false = false ∨ vg3 G (qj2 s j) = (qj2 s j).length):=by
     have h:=hstr.symm
     simp only [Bool.and_eq_true,Bool.or_eq_true,Bool.not_eq_true',decide_eq_true_eq] at h
     exact ⟨decide_eq_true h.1,h.2⟩
    have g1 : (0 : Int) < ((vg3 G (qj2 s j) : Nat) : Int):=by have:=of_decide_eq_true hb.1;omega
    rcases Bool.eq_false_or_eq_true (s.sm.getD j false) with hsm | hsm
    · have g2 : (((vg3 G (qj2 s j) : Nat) : Int) == ((qj2 s j).length : Int)) = true:=by
       rcases hb.2 with h | h
       · rw [hsm] at h;cases h
       · rw [h];exact beq_self_eq_true _
      rw [hsm] at hg3
      have hs2 : Hid (qw3 s F (j + 1) = G.set j true):=hs'
      have hd2 : Hid (decide (qs3 F < qs3 (G.set j true)) = true):=hdec
      clear hs' hdec hcnt hsucc hG e1 e2 e3 hgf hstr hcf hR hcl hto tr hb hc hble
      repeat' (first|(with_reducible apply zz1)|((with_reducible apply zz2);rfl;intro K' hK';simp only [WD,simprocAttr,zb,hi1,hj0,hj3,g1,g2,hg3,za,ze,zf,cond_true,cond_false];(repeat (constructor;focus (clear hK';intros;simp_all;done)));(try (apply hK';clear hK' K')))|((with_reducible apply zz3);rfl;all_goals (intro h;try exact absurd h (by decide))))
      -- TRACE
      refine qr0 6 rfl ?_
      simp only [WD,simprocAttr,xw6,  zb,za,hj0,hj2,hgd4]
      (repeat (constructor;focus (clear hK';intros;simp_all;done)))
      refine qt6 rfl (by simp only [WD,simprocAttr,qj8,xx6,xk0,Option.map_some,hgd4,za,hset];rfl) ?_ ?_
      · first | trivial | ((repeat' constructor) <;> first | trivial | assumption | (clear hK';intros;simp_all;done))
      simp only [WD,simprocAttr,hgd4,za,hset]
      (repeat (constructor;focus (clear hK';intros;simp_all;done)))
      (try (apply hK';clear hK' K'))
      repeat' (first|(with_reducible apply zz1)|((with_reducible apply zz2);rfl;intro K' hK';simp only [WD,simprocAttr,hw3];(repeat (constructor;focus (clear hK';intros;simp_all;done)));(try (apply hK';clear hK' K')))|((with_reducible apply zz3);rfl;all_goals (intro h;try exact absurd h (by decide))))
      refine ⟨j + 1,(by show j + 1 ≤ s.ks.length;omega),(by show s.ks.length - (j + 1) < s.ks.length - j;omega),by simp only [show qw3 s F (j + 1) = G.set j true from hs2,show decide (qs3 F < qs3 (G.set j true)) = true from hd2];refine qa3 h0 ?_ ?_ ?_ <;> simp only [US,WD,simprocAttr]⟩
    · rw [hsm] at hg3
      have hs2 : Hid (qw3 s F (j + 1) = G.set j true):=hs'
      have hd2 : Hid (decide (qs3 F < qs3 (G.set j true)) = true):=hdec
      clear hs' hdec hcnt hsucc hG e1 e2 e3 hgf hstr hcf hR hcl hto tr hb hc hble
      repeat' (first|(with_reducible apply zz1)|((with_reducible apply zz2);rfl;intro K' hK';simp only [WD,simprocAttr,zb,hi1,hj0,hj3,g1,hg3,za,ze,zf,cond_true,cond_false];(repeat (constructor;focus (clear hK';intros;simp_all;done)));(try (apply hK';clear hK' K')))|((with_reducible apply zz3);rfl;all_goals (intro h;try exact absurd h (by decide))))
      refine qr0 6 rfl ?_
      simp only [WD,simprocAttr,xw6,  zb,za,hj0,hj2,hgd4]
      (repeat (constructor;focus (clear hK';intros;simp_all;done)))
      refine qt6 rfl (by simp only [WD,simprocAttr,qj8,xx6,xk0,Option.map_some,hgd4,za,hset];rfl) ?_ ?_
      · first | trivial | ((repeat' constructor) <;> first | trivial | assumption | (clear hK';intros;simp_all;done))
      simp only [WD,simprocAttr,hgd4,za,hset]
      (repeat (constructor;focus (clear hK';intros;simp_all;done)))
      (try (apply hK';clear hK' K'))
      repeat' (first|(with_reducible apply zz1)|((with_reducible apply zz2);rfl;intro K' hK';simp only [WD,simprocAttr,hw3];(repeat (constructor;focus (clear hK';intros;simp_all;done)));(try (apply hK';clear hK' K')))|((with_reducible apply zz3);rfl;all_goals (intro h;try exact absurd h (by decide))))
      refine ⟨j + 1,(by show j + 1 ≤ s.ks.length;omega),(by show s.ks.length - (j + 1) < s.ks.length - j;omega),by simp only [show qw3 s F (j + 1) = G.set j true from hs2,show decide (qs3 F < qs3 (G.set j true)) = true from hd2];refine qa3 h0 ?_ ?_ ?_ <;> simp only [US,WD,simprocAttr]⟩
   | false =>
    rw [hc] at hstr
    have hs' : qw3 s F (j + 1) = G:=by rw [hsucc];unfold xw5;rw [if_neg (by rw [hc];decide)]
    by_cases hb : 0 < vg3 G (qj2 s j)
    · have g1 : (0 : Int) < ((vg3 G (qj2 s j) : Nat) : Int):=by omega
      have h:=hstr.symm
      simp only [hb,decide_true,zo,Bool.or_eq_false_iff,Bool.not_eq_false',decide_eq_false_iff_not] at h
      have g2 : (((vg3 G (qj2 s j) : Nat) : Int) == ((qj2 s j).length : Int)) = false:=by
       rw [beq_eq_false_iff_ne];omega
      rw [h.1] at hg3
      have hs2 : Hid (qw3 s F (j + 1) = G):=hs'
      clear hs' h hsucc hG e1 e2 e3 hgf hstr hcf hR hcl hto tr hc hble hset
      repeat' (first|(with_reducible apply zz1)|((with_reducible apply zz2);rfl;intro K' hK';simp only [WD,simprocAttr,zb,hi1,hj0,hj3,g1,g2,hg3,hw3,za,ze,zf,cond_true,cond_false];(repeat (constructor;focus (clear hK';intros;simp_all;done)));(try (apply hK';clear hK' K')))|((with_reducible apply zz3);rfl;all_goals (intro h;try exact absurd h (by decide))))
      refine ⟨j + 1,(by show j + 1 ≤ s.ks.length;omega),(by show s.ks.length - (j + 1) < s.ks.length - j;omega),by simp only [show qw3 s F (j + 1) = G from hs2];refine qa3 h0 ?_ ?_ ?_ <;> simp only [US,WD,simprocAttr]⟩
    · have g1 : ¬ (0 : Int) < ((vg3 G (qj2 s j) : Nat) : Int):=by omega
      have hs2 : Hid (qw3 s F (j + 1) = G):=hs'
      clear hs' hsucc hG e1 e2 e3 hgf hstr hcf hR hcl hto tr hc hble hset
      repeat' (first|(with_reducible apply zz1)|((with_reducible apply zz2);rfl;intro K' hK';simp only [WD,simprocAttr,zb,hi1,hj0,hj3,g1,hg3,hw3,za,ze,zf,cond_true,cond_false];(repeat (constructor;focus (clear hK';intros;simp_all;done)));(try (apply hK';clear hK' K')))|((with_reducible apply zz3);rfl;all_goals (intro h;try exact absurd h (by decide))))
      refine ⟨j + 1,(by show j + 1 ≤ s.ks.length;omega),(by show s.ks.length - (j + 1) < s.ks.length - j;omega),by simp only [show qw3 s F (j + 1) = G from hs2];refine qa3 h0 ?_ ?_ ?_ <;> simp only [US,WD,simprocAttr]⟩
end Go.Proofs.YtgecnlcbdbaneaaDoor
