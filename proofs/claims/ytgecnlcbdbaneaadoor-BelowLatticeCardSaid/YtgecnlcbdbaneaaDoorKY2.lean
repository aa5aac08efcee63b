/- below.bound's strike; a symbolic walk. -/
-- TYPESD
import Derived.Test.YtgecnlcbdbaneaaDoorKD7
set_option linter.unusedVariables false
set_option linter.unusedSimpArgs false
namespace Go.Proofs.YtgecnlcbdbaneaaDoor
open Go.RowKit Go.Sw

def bdC (A B : List Nd) : List SV:=[.d (.slc (A.map Nd.d)),.d (.slc (B.map Nd.d)),.mp 1,.own 2,.own 3,.own 4]
def strJ (s : Bd) (F : List Bool) (j : Nat) : List Bool:=(List.range j).foldl (strN s) F
theorem strJ_succ (s : Bd) (F : List Bool) (j : Nat) : strJ s F (j + 1) = strN s (strJ s F j) j:=by
 unfold strJ
 rw [List.range_succ,List.foldl_append]
 rfl
theorem strJ_ok {s : Bd} {F : List Bool} (hF : F.length = s.ks.length) {j : Nat} (hj : j ≤ s.ks.length) : (strJ s F j).length = F.length ∧ cntB F ≤ cntB (strJ s F j) ∧ (cntB F = cntB (strJ s F j) → strJ s F j = F):=by
 have h:=fold_str s (List.range j) F (fun i hi=>by have:=List.mem_range.1 hi;omega)
 unfold strJ
 refine ⟨h.1.ln,?_,fun e=>?_⟩
 · rcases h.2 with ⟨-,e⟩ | e
   · rw [e];exact Nat.le_refl _
   · omega
 · rcases h.2 with ⟨-,e'⟩ | e'
   · exact e'
   · omega
theorem badN_snoc (F : List Bool) (l : List Int) (t : Int) : badN F (l ++ [t]) = badN F l + (if fAt F t = true then 1 else 0):=by
 unfold badN
 rw [List.filter_append,List.length_append]
 congr 1
 rw [List.filter_cons]
 split <;> simp
theorem badN_le (F : List Bool) (l : List Int) : badN F l ≤ l.length:=List.length_filter_le _ _
def Hid (p : Prop) : Prop:=p
set_option maxHeartbeats 16000000 in
set_option maxRecDepth 100000 in
theorem strike_fn (Γ : Gl) (A B : List Nd) (M : List (Value × Value)) (s : Bd) (h1 : s.ns.length = s.ks.length) (h2 : s.sm.length = s.ks.length) (h3 : s.fl.length = s.ks.length) (hn : s.ks.length ≤ 100000)
 (hto : ∀ j,j < s.ks.length → (toAt s j).length ≤ 12 ∧ ∀ t ∈ toAt s j,0 ≤ t ∧ t < (s.ks.length : Int)) :
 SFn Tryd.prog Γ 75 [.ref 0 0] [(0,.cells (bdC A B)),(1,.mp M),(2,.row 4 (s.ns.map Nd.d)),(3,.row 1 (s.sm.map bD)),(4,.row 1 (s.fl.map bD))] (.tup [])
  [(0,.cells (bdC A B)),(1,.mp M),(2,.row 4 (s.ns.map Nd.d)),(3,.row 1 (s.sm.map bD)),(4,.row 1 ((strikeP s).map bD))]:=by
 obtain ⟨R,hR⟩ : ∃ R,strikeP s = R:=⟨_,rfl⟩
 rw [hR]
 unfold strikeP at hR
 simp only [bdC]
 refine sfn_of_swp (N:=69) Tryd.func75 rfl (by decide) rfl rfl (by simp) (fun C h0=>?_)
 simp only [argS]
 repeat' (first|(with_reducible apply zz1)|((with_reducible refine zz4 ?_ ?_);rfl)|((with_reducible refine zz2 ?_ (fun K' hK'=>?_));rfl;simp only [WD,simprocAttr];(repeat (refine And.intro ?_ ?_;focus (clear hK';intros;simp_all;done)));(try (refine hK' _ _ ?_;clear hK' K')))|((with_reducible refine zz3 ?_ ?_);rfl;refine ⟨_,rfl,fun h=>?_,fun h=>?_⟩ <;> try exact absurd h (by decide)))
 refine swp_loop (α := Bool × List Bool) (fun q=>[(0,.ref 0 0),(2,.d (bD q.1))]) (fun q=>[(0,.cells [.d (.slc (A.map Nd.d)),.d (.slc (B.map Nd.d)),.mp 1,.own 2,.own 3,.own 4]),(1,.mp M),(2,.row 4 (s.ns.map Nd.d)),(3,.row 1 (s.sm.map bD)),(4,.row 1 (q.2.map bD))])
  (fun q=>q.2.length = s.ks.length ∧ ((q.1 = true → ∃ f,strF s f q.2 = R ∧ s.ks.length + 1 ≤ f + cntB q.2) ∧ (q.1 = false → q.2 = R))) (fun q=>if q.1 = true then s.ks.length + 2 - cntB q.2 else 0) (true,s.fl) ⟨h3,(fun _=>⟨_,hR,by omega⟩),(fun h=>by cases h)⟩ (by refine sub_of h0 ?_ ?_ ?_ <;> simp only [US,WD,simprocAttr]) (fun q hq=>?_)
 obtain ⟨m,F⟩:=q
 obtain ⟨hF,hT,hf⟩:=hq
 simp only at hF hT hf
 cases m with
 | false =>
  obtain rfl:=hf rfl
  repeat' (first|(with_reducible apply zz1)|((with_reducible refine zz4 ?_ ?_);rfl)|((with_reducible refine zz2 ?_ (fun K' hK'=>?_));rfl;simp only [WD,simprocAttr];(repeat (refine And.intro ?_ ?_;focus (clear hK';intros;simp_all;done)));(try (refine hK' _ _ ?_;clear hK' K')))|((with_reducible refine zz3 ?_ ?_);rfl;refine ⟨_,rfl,fun h=>?_,fun h=>?_⟩ <;> try exact absurd h (by decide)))
  simp only [KretS,retL,retOne,oneV,US,WD,simprocAttr,h0]
 | true =>
 obtain ⟨f,hR,hcf⟩:=hT rfl
 have hcl:=cnt_le F
 repeat' (first|(with_reducible apply zz1)|((with_reducible refine zz4 ?_ ?_);rfl)|((with_reducible refine zz2 ?_ (fun K' hK'=>?_));rfl;simp only [WD,simprocAttr,List.length_map];(repeat (refine And.intro ?_ ?_;focus (clear hK';intros;simp_all;done)));(try (refine hK' _ _ ?_;clear hK' K')))|((with_reducible refine zz3 ?_ ?_);rfl;refine ⟨_,rfl,fun h=>?_,fun h=>?_⟩ <;> try exact absurd h (by decide)))
 -- TRACE
 refine swp_loop (α := Nat) (fun j=>[(0,.ref 0 0),(2,.d (bD (decide (cntB F < cntB (strJ s F j))))),(12,.own 2),(13,.d (iD s.ns.length)),(14,.d (iD j))]) (fun j=>[(0,.cells [.d (.slc (A.map Nd.d)),.d (.slc (B.map Nd.d)),.mp 1,.own 2,.own 3,.own 4]),(1,.mp M),(2,.row 4 (s.ns.map Nd.d)),(3,.row 1 (s.sm.map bD)),(4,.row 1 ((strJ s F j).map bD))])
  (fun j=>j ≤ s.ks.length) (fun j=>s.ks.length - j) 0 (Nat.zero_le _) (by refine sub_of h0 ?_ ?_ ?_ <;> simp only [US,WD,simprocAttr,List.length_map,strJ,List.range_zero,List.foldl_nil,Nat.lt_irrefl,decide_false]) (fun j hj=>?_)
 have hj : j ≤ s.ks.length:=hj
 have hj0 : (0 : Int) ≤ (j : Int):=by omega
 obtain ⟨e1,e2,e3⟩:=strJ_ok hF hj
 by_cases hlt : j < s.ks.length
 rotate_left
 · have hj1 : ¬ (j : Int) < (s.ns.length : Int):=by omega
   have hjn : j = s.ks.length:=by omega
   subst hjn
   have hRd : strJ s F s.ks.length = strR s F:=rfl
   repeat' (first|(with_reducible apply zz1)|((with_reducible refine zz4 ?_ ?_);rfl)|((with_reducible refine zz2 ?_ (fun K' hK'=>?_));rfl;simp only [WD,simprocAttr,hj1];(repeat (refine And.intro ?_ ?_;focus (clear hK';intros;simp_all;done)));(try (refine hK' _ _ ?_;clear hK' K')))|((with_reducible refine zz3 ?_ ?_);rfl;refine ⟨_,rfl,fun h=>?_,fun h=>?_⟩ <;> try exact absurd h (by decide)))
   obtain ⟨f,rfl⟩ : ∃ f',f = f' + 1:=⟨f - 1,by omega⟩
   unfold strF at hR
   by_cases hc : cntB F < cntB (strJ s F s.ks.length)
   · have hne : strR s F ≠ F:=fun e=>by rw [hRd,e] at hc;omega
     rw [if_neg hne, ← hRd] at hR
     have hcl2:=cnt_le (strJ s F s.ks.length)
     refine ⟨(true,strJ s F s.ks.length),⟨by show (strJ s F s.ks.length).length = _;omega,(fun _=>⟨f,hR,by show _ ≤ f + cntB (strJ s F s.ks.length);omega⟩),(fun h=>by cases h)⟩,(by show (if true = true then _ else _) < (if true = true then _ else _);rw [if_pos rfl,if_pos rfl];show s.ks.length + 2 - cntB (strJ s F s.ks.length) < s.ks.length + 2 - cntB F;omega),by simp only [hc,decide_true];refine sub_of h0 ?_ ?_ ?_ <;> simp only [US,WD,simprocAttr]⟩
   · have he : strJ s F s.ks.length = F:=e3 (by omega)
     rw [if_pos (by rw [← hRd];exact he)] at hR
     refine ⟨(false,F),⟨hF,(fun h=>by cases h),(fun _=>hR)⟩,(by show (if false = true then _ else _) < (if true = true then _ else _);rw [if_neg (by decide),if_pos rfl];show 0 < s.ks.length + 2 - cntB F;omega),by simp only [he,Nat.lt_irrefl,decide_false];refine sub_of h0 ?_ ?_ ?_ <;> simp only [US,WD,simprocAttr]⟩
 have hj1 : (j : Int) < (s.ns.length : Int):=by omega
 have hj2 : (j : Int) < ((strJ s F j).length : Int):=by omega
 have hj3 : (j : Int) < (s.sm.length : Int):=by omega
 have hw3 : IntKind.i64.wrap ((j : Int) + 1) = ((j + 1 : Nat) : Int):=by rw [wrap_in (by omega) (by omega)];omega
 have hgn : (s.ns.map Nd.d).getD j default = (s.ns.getD j n0).d:=by simp [List.getD,show j < s.ns.length by omega]
 have hgf : ∀ (F : List Bool) (i : Nat),i < F.length → (F.map bD).getD i default = bD (F.getD i false):=fun F i hi=>by simp [List.getD,hi]
 have hg1:=hgf (strJ s F j) j (by omega)
 have hg3:=hgf s.sm j (by omega)
 obtain ⟨t6,tr⟩:=hto j hlt
 have hsucc:=strJ_succ s F j
 generalize hG : strJ s F j = G at *
 have hstr : strC s G j = (!(G.getD j false) && (decide (0 < badN G (toAt s j)) && (!(s.sm.getD j false) || decide (badN G (toAt s j) = (toAt s j).length)))):=rfl
 have hT : (s.ns.getD j n0).to = toAt s j:=rfl
 generalize s.ns.getD j n0 = X at *
 obtain ⟨xk,xso,xls,xto⟩:=X
 simp only at hT
 subst hT
 simp only [Nd.d] at hgn
 cases hfj : G.getD j false with
 | true =>
  rw [hfj] at hg1 hstr
  simp only [Bool.not_true,Bool.false_and] at hstr
  have hs' : strJ s F (j + 1) = G:=by rw [hsucc];unfold strN;rw [if_neg (by rw [hstr];decide)]
  repeat' (first|(with_reducible apply zz1)|((with_reducible refine zz4 ?_ ?_);rfl)|((with_reducible refine zz2 ?_ (fun K' hK'=>?_));rfl;simp only [WD,simprocAttr,Int.toNat_natCast,hj0,hj1,hj2,hgn,hg1,List.length_map,hw3];(repeat (refine And.intro ?_ ?_;focus (clear hK';intros;simp_all;done)));(try (refine hK' _ _ ?_;clear hK' K')))|((with_reducible refine zz3 ?_ ?_);rfl;refine ⟨_,rfl,fun h=>?_,fun h=>?_⟩ <;> try exact absurd h (by decide)))
  refine ⟨j + 1,(by show j + 1 ≤ s.ks.length;omega),(by show s.ks.length - (j + 1) < s.ks.length - j;omega),by simp only [hs'];refine sub_of h0 ?_ ?_ ?_ <;> simp only [US,WD,simprocAttr]⟩
 | false =>
 rw [hfj] at hg1 hstr
 simp only [Bool.not_false,Bool.true_and] at hstr
 repeat' (first|(with_reducible apply zz1)|((with_reducible refine zz4 ?_ ?_);rfl)|((with_reducible refine zz2 ?_ (fun K' hK'=>?_));rfl;simp only [WD,simprocAttr,Int.toNat_natCast,hj0,hj1,hj2,hgn,hg1,List.length_map];(repeat (refine And.intro ?_ ?_;focus (clear hK';intros;simp_all;done)));(try (refine hK' _ _ ?_;clear hK' K')))|((with_reducible refine zz3 ?_ ?_);rfl;refine ⟨_,rfl,fun h=>?_,fun h=>?_⟩ <;> try exact absurd h (by decide)))
 -- TRACE
 refine swp_loop (α := Nat) (fun i=>[(0,.ref 0 0),(2,.d (bD (decide (cntB F < cntB G)))),(12,.own 2),(13,.d (iD s.ns.length)),(14,.d (iD j)),(3,.d (iD j)),(4,.ref 5 0),(5,.d (iD (badN G ((toAt s j).take i)))),(27,.d (.slc ((toAt s j).map iD))),(28,.d (iD (toAt s j).length)),(29,.d (iD i))]) (fun i=>[(0,.cells [.d (.slc (A.map Nd.d)),.d (.slc (B.map Nd.d)),.mp 1,.own 2,.own 3,.own 4]),(1,.mp M),(2,.row 4 (s.ns.map Nd.d)),(3,.row 1 (s.sm.map bD)),(4,.row 1 (G.map bD)),(5,.cells [.d (iD xk),.d (iD xso),.d (.slc (xls.map sD)),.d (.slc ((toAt s j).map iD))])])
  (fun i=>i ≤ (toAt s j).length) (fun i=>(toAt s j).length - i) 0 (Nat.zero_le _) (by refine sub_of h0 ?_ ?_ ?_ <;> simp only [US,WD,simprocAttr,List.length_map,List.take_zero,badN,List.filter_nil]) (fun i hi=>?_)
 have hi : i ≤ (toAt s j).length:=hi
 have hi0 : (0 : Int) ≤ (i : Int):=by omega
 have hble:=badN_le G ((toAt s j).take i)
 rw [List.length_take] at hble
 by_cases hil : i < (toAt s j).length
 · obtain ⟨t,ht⟩ : ∃ t,(toAt s j)[i]? = some t:=⟨(toAt s j)[i],by simp [hil]⟩
   have htr:=tr t (List.mem_of_getElem? ht)
   have hgt : ((toAt s j).map iD).getD i default = iD t:=by simp [List.getD,ht]
   have hi1 : (i : Int) < ((toAt s j).length : Int):=by omega
   have hw2 : IntKind.i64.wrap ((i : Int) + 1) = ((i + 1 : Nat) : Int):=by rw [wrap_in (by omega) (by omega)];omega
   have hg2:=hgf G t.toNat (by omega)
   have t0:=htr.1
   have t1 : t < (G.length : Int):=by omega
   have htk : (toAt s j).take (i + 1) = (toAt s j).take i ++ [t]:=by rw [List.take_add_one,ht];rfl
   have hbn:=badN_snoc G ((toAt s j).take i) t
   rw [← htk] at hbn
   unfold fAt at hbn
   have hwb : IntKind.i64.wrap (((badN G ((toAt s j).take i) : Nat) : Int) + 1) = ((badN G ((toAt s j).take i) + 1 : Nat) : Int):=by rw [wrap_in (by omega) (by omega)];omega
   cases hft : G.getD t.toNat false with
   | true =>
    rw [hft] at hg2 hbn
    rw [if_pos rfl] at hbn
    repeat' (first|(with_reducible apply zz1)|((with_reducible refine zz4 ?_ ?_);rfl)|((with_reducible refine zz2 ?_ (fun K' hK'=>?_));rfl;simp only [WD,simprocAttr,Int.toNat_natCast,hi0,hi1,hgt,t0,t1,hg2,hw2,hwb,List.length_map];(repeat (refine And.intro ?_ ?_;focus (clear hK';intros;simp_all;done)));(try (refine hK' _ _ ?_;clear hK' K')))|((with_reducible refine zz3 ?_ ?_);rfl;refine ⟨_,rfl,fun h=>?_,fun h=>?_⟩ <;> try exact absurd h (by decide)))
    refine ⟨i + 1,(by show i + 1 ≤ (toAt s j).length;omega),(by show (toAt s j).length - (i + 1) < (toAt s j).length - i;omega),by simp only [hbn];refine sub_of h0 ?_ ?_ ?_ <;> simp only [US,WD,simprocAttr]⟩
   | false =>
    rw [hft] at hg2 hbn
    rw [if_neg (by decide),Nat.add_zero] at hbn
    repeat' (first|(with_reducible apply zz1)|((with_reducible refine zz4 ?_ ?_);rfl)|((with_reducible refine zz2 ?_ (fun K' hK'=>?_));rfl;simp only [WD,simprocAttr,Int.toNat_natCast,hi0,hi1,hgt,t0,t1,hg2,hw2,List.length_map];(repeat (refine And.intro ?_ ?_;focus (clear hK';intros;simp_all;done)));(try (refine hK' _ _ ?_;clear hK' K')))|((with_reducible refine zz3 ?_ ?_);rfl;refine ⟨_,rfl,fun h=>?_,fun h=>?_⟩ <;> try exact absurd h (by decide)))
    refine ⟨i + 1,(by show i + 1 ≤ (toAt s j).length;omega),(by show (toAt s j).length - (i + 1) < (toAt s j).length - i;omega),by simp only [hbn];refine sub_of h0 ?_ ?_ ?_ <;> simp only [US,WD,simprocAttr]⟩
 · have hi1 : ¬ (i : Int) < ((toAt s j).length : Int):=by omega
   rw [List.take_of_length_le (by omega)]
   have hset : (G.map bD).set j (bD true) = (G.set j true).map bD:=by rw [List.map_set]
   have hgd4 : (G.map bD).getD j default = bD false:=hg1
   cases hc : strC s G j with
   | true =>
    rw [hc] at hstr
    have hs' : strJ s F (j + 1) = G.set j true:=by rw [hsucc];unfold strN;rw [if_pos hc]
    have hcnt:=cnt_set (l:=G) (j:=j) (by omega) hfj
    have hdec : decide (cntB F < cntB (G.set j true)) = true:=by rw [hcnt];exact decide_eq_true (by omega)
    -- what the walk asks
    have hb : decide (0 < badN G (toAt s j)) = true ∧ (s.sm.getD j false = false ∨ badN G (toAt s j) = (toAt s j).length):=by
     have h:=hstr.symm
     simp only [Bool.and_eq_true,Bool.or_eq_true,Bool.not_eq_true',decide_eq_true_eq] at h
     exact ⟨decide_eq_true h.1,h.2⟩
    have g1 : (0 : Int) < ((badN G (toAt s j) : Nat) : Int):=by have:=of_decide_eq_true hb.1;omega
    rcases Bool.eq_false_or_eq_true (s.sm.getD j false) with hsm | hsm
    · have g2 : (((badN G (toAt s j) : Nat) : Int) == ((toAt s j).length : Int)) = true:=by
       rcases hb.2 with h | h
       · rw [hsm] at h;cases h
       · rw [h];exact beq_self_eq_true _
      rw [hsm] at hg3
      have hs2 : Hid (strJ s F (j + 1) = G.set j true):=hs'
      have hd2 : Hid (decide (cntB F < cntB (G.set j true)) = true):=hdec
      clear hs' hdec hcnt hsucc hG e1 e2 e3 hgf hstr hcf hR hcl hto tr hb hc hble
      repeat' (first|(with_reducible apply zz1)|((with_reducible refine zz4 ?_ ?_);rfl)|((with_reducible refine zz2 ?_ (fun K' hK'=>?_));rfl;simp only [WD,simprocAttr,Int.toNat_natCast,hi1,hj0,hj3,g1,g2,hg3,List.length_map,Bool.not_true,Bool.not_false,cond_true,cond_false];(repeat (refine And.intro ?_ ?_;focus (clear hK';intros;simp_all;done)));(try (refine hK' _ _ ?_;clear hK' K')))|((with_reducible refine zz3 ?_ ?_);rfl;refine ⟨_,rfl,fun h=>?_,fun h=>?_⟩ <;> try exact absurd h (by decide)))
      -- TRACE
      refine vcTo_ok 6 rfl ?_
      simp only [WD,simprocAttr,vcTo,  Int.toNat_natCast,List.length_map,hj0,hj2,hgd4]
      (repeat (refine And.intro ?_ ?_;focus (clear hK';intros;simp_all;done)))
      refine stop_sE rfl (by simp only [WD,simprocAttr,storeE,setE,dAll,Option.map_some,hgd4,List.length_map,hset];rfl) ?_ ?_
      · first | trivial | ((repeat' (refine And.intro ?_ ?_)) <;> first | trivial | assumption | (clear hK';intros;simp_all;done))
      simp only [WD,simprocAttr,hgd4,List.length_map,hset]
      (repeat (refine And.intro ?_ ?_;focus (clear hK';intros;simp_all;done)))
      (try (refine hK' _ _ ?_;clear hK' K'))
      repeat' (first|(with_reducible apply zz1)|((with_reducible refine zz4 ?_ ?_);rfl)|((with_reducible refine zz2 ?_ (fun K' hK'=>?_));rfl;simp only [WD,simprocAttr,hw3];(repeat (refine And.intro ?_ ?_;focus (clear hK';intros;simp_all;done)));(try (refine hK' _ _ ?_;clear hK' K')))|((with_reducible refine zz3 ?_ ?_);rfl;refine ⟨_,rfl,fun h=>?_,fun h=>?_⟩ <;> try exact absurd h (by decide)))
      refine ⟨j + 1,(by show j + 1 ≤ s.ks.length;omega),(by show s.ks.length - (j + 1) < s.ks.length - j;omega),by simp only [show strJ s F (j + 1) = G.set j true from hs2,show decide (cntB F < cntB (G.set j true)) = true from hd2];refine sub_of h0 ?_ ?_ ?_ <;> simp only [US,WD,simprocAttr]⟩
    · rw [hsm] at hg3
      have hs2 : Hid (strJ s F (j + 1) = G.set j true):=hs'
      have hd2 : Hid (decide (cntB F < cntB (G.set j true)) = true):=hdec
      clear hs' hdec hcnt hsucc hG e1 e2 e3 hgf hstr hcf hR hcl hto tr hb hc hble
      repeat' (first|(with_reducible apply zz1)|((with_reducible refine zz4 ?_ ?_);rfl)|((with_reducible refine zz2 ?_ (fun K' hK'=>?_));rfl;simp only [WD,simprocAttr,Int.toNat_natCast,hi1,hj0,hj3,g1,hg3,List.length_map,Bool.not_true,Bool.not_false,cond_true,cond_false];(repeat (refine And.intro ?_ ?_;focus (clear hK';intros;simp_all;done)));(try (refine hK' _ _ ?_;clear hK' K')))|((with_reducible refine zz3 ?_ ?_);rfl;refine ⟨_,rfl,fun h=>?_,fun h=>?_⟩ <;> try exact absurd h (by decide)))
      refine vcTo_ok 6 rfl ?_
      simp only [WD,simprocAttr,vcTo,  Int.toNat_natCast,List.length_map,hj0,hj2,hgd4]
      (repeat (refine And.intro ?_ ?_;focus (clear hK';intros;simp_all;done)))
      refine stop_sE rfl (by simp only [WD,simprocAttr,storeE,setE,dAll,Option.map_some,hgd4,List.length_map,hset];rfl) ?_ ?_
      · first | trivial | ((repeat' (refine And.intro ?_ ?_)) <;> first | trivial | assumption | (clear hK';intros;simp_all;done))
      simp only [WD,simprocAttr,hgd4,List.length_map,hset]
      (repeat (refine And.intro ?_ ?_;focus (clear hK';intros;simp_all;done)))
      (try (refine hK' _ _ ?_;clear hK' K'))
      repeat' (first|(with_reducible apply zz1)|((with_reducible refine zz4 ?_ ?_);rfl)|((with_reducible refine zz2 ?_ (fun K' hK'=>?_));rfl;simp only [WD,simprocAttr,hw3];(repeat (refine And.intro ?_ ?_;focus (clear hK';intros;simp_all;done)));(try (refine hK' _ _ ?_;clear hK' K')))|((with_reducible refine zz3 ?_ ?_);rfl;refine ⟨_,rfl,fun h=>?_,fun h=>?_⟩ <;> try exact absurd h (by decide)))
      refine ⟨j + 1,(by show j + 1 ≤ s.ks.length;omega),(by show s.ks.length - (j + 1) < s.ks.length - j;omega),by simp only [show strJ s F (j + 1) = G.set j true from hs2,show decide (cntB F < cntB (G.set j true)) = true from hd2];refine sub_of h0 ?_ ?_ ?_ <;> simp only [US,WD,simprocAttr]⟩
   | false =>
    rw [hc] at hstr
    have hs' : strJ s F (j + 1) = G:=by rw [hsucc];unfold strN;rw [if_neg (by rw [hc];decide)]
    by_cases hb : 0 < badN G (toAt s j)
    · have g1 : (0 : Int) < ((badN G (toAt s j) : Nat) : Int):=by omega
      have h:=hstr.symm
      simp only [hb,decide_true,Bool.true_and,Bool.or_eq_false_iff,Bool.not_eq_false',decide_eq_false_iff_not] at h
      have g2 : (((badN G (toAt s j) : Nat) : Int) == ((toAt s j).length : Int)) = false:=by
       rw [beq_eq_false_iff_ne];omega
      rw [h.1] at hg3
      have hs2 : Hid (strJ s F (j + 1) = G):=hs'
      clear hs' h hsucc hG e1 e2 e3 hgf hstr hcf hR hcl hto tr hc hble hset
      repeat' (first|(with_reducible apply zz1)|((with_reducible refine zz4 ?_ ?_);rfl)|((with_reducible refine zz2 ?_ (fun K' hK'=>?_));rfl;simp only [WD,simprocAttr,Int.toNat_natCast,hi1,hj0,hj3,g1,g2,hg3,hw3,List.length_map,Bool.not_true,Bool.not_false,cond_true,cond_false];(repeat (refine And.intro ?_ ?_;focus (clear hK';intros;simp_all;done)));(try (refine hK' _ _ ?_;clear hK' K')))|((with_reducible refine zz3 ?_ ?_);rfl;refine ⟨_,rfl,fun h=>?_,fun h=>?_⟩ <;> try exact absurd h (by decide)))
      refine ⟨j + 1,(by show j + 1 ≤ s.ks.length;omega),(by show s.ks.length - (j + 1) < s.ks.length - j;omega),by simp only [show strJ s F (j + 1) = G from hs2];refine sub_of h0 ?_ ?_ ?_ <;> simp only [US,WD,simprocAttr]⟩
    · have g1 : ¬ (0 : Int) < ((badN G (toAt s j) : Nat) : Int):=by omega
      have hs2 : Hid (strJ s F (j + 1) = G):=hs'
      clear hs' hsucc hG e1 e2 e3 hgf hstr hcf hR hcl hto tr hc hble hset
      repeat' (first|(with_reducible apply zz1)|((with_reducible refine zz4 ?_ ?_);rfl)|((with_reducible refine zz2 ?_ (fun K' hK'=>?_));rfl;simp only [WD,simprocAttr,Int.toNat_natCast,hi1,hj0,hj3,g1,hg3,hw3,List.length_map,Bool.not_true,Bool.not_false,cond_true,cond_false];(repeat (refine And.intro ?_ ?_;focus (clear hK';intros;simp_all;done)));(try (refine hK' _ _ ?_;clear hK' K')))|((with_reducible refine zz3 ?_ ?_);rfl;refine ⟨_,rfl,fun h=>?_,fun h=>?_⟩ <;> try exact absurd h (by decide)))
      refine ⟨j + 1,(by show j + 1 ≤ s.ks.length;omega),(by show s.ks.length - (j + 1) < s.ks.length - j;omega),by simp only [show strJ s F (j + 1) = G from hs2];refine sub_of h0 ?_ ?_ ?_ <;> simp only [US,WD,simprocAttr]⟩
end Go.Proofs.YtgecnlcbdbaneaaDoor
