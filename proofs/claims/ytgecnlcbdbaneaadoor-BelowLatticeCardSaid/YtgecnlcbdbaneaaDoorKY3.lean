/- below.bound's left; a symbolic walk. -/
-- TYPESD
import Derived.Test.YtgecnlcbdbaneaaDoorKY2
set_option linter.unusedVariables false
set_option linter.unusedSimpArgs false
namespace Go.Proofs.YtgecnlcbdbaneaaDoor
open Go.RowKit Go.Sw
open Nat renaming reduceAdd → zn2

theorem filt_snoc {F : List Bool} (l : List Int) (t : Int) : (l ++ [t]).filter (fun t => !fAt F t) = l.filter (fun t => !fAt F t) ++ (if fAt F t = true then [] else [t]):=by
 rw [List.filter_append,List.filter_cons]
 cases fAt F t <;> simp
def lsF (F : List Bool) (ls : List ByteArray) (to : List Int) (i : Nat) : List ByteArray:=(((ls.zip to).take i).filter fun p => !fAt F p.2).map (·.1)
theorem lsF_nil (F : List Bool) (to : List Int) (i : Nat) : lsF F [] to i = []:=by simp [lsF]
theorem lsF_succ {F : List Bool} {ls : List ByteArray} {to : List Int} {i : Nat} {l : ByteArray} {t : Int} (hl : ls[i]? = some l) (ht : to[i]? = some t) : lsF F ls to (i + 1) = lsF F ls to i ++ (if fAt F t = true then [] else [l]):=by
 unfold lsF
 have : (ls.zip to)[i]? = some (l,t):=by rw [List.getElem?_zip_eq_some];exact ⟨hl,ht⟩
 rw [List.take_add_one,this]
 simp only [Option.toList_some,List.filter_append,List.filter_cons,List.map_append]
 cases fAt F t <;> simp
theorem lsF_all (F : List Bool) (ls : List ByteArray) (to : List Int) {i : Nat} (h : to.length ≤ i) : lsF F ls to i = ((ls.zip to).filter fun p => !fAt F p.2).map (·.1):=by
 unfold lsF
 rw [List.take_of_length_le (by simp;omega)]
set_option maxHeartbeats 16000000 in
set_option maxRecDepth 100000 in
theorem left_fn (Γ : Gl) (A B : List Nd) (M : List (Value × Value)) (s : Bd) (F : List Bool) (h1 : s.ns.length = s.ks.length) (hF : F.length = s.ks.length) (hn : s.ks.length ≤ 100000) (hpos : 0 < s.ks.length) (hl0 : F.getD 0 false = false)
 (hto : ∀ j,j < s.ks.length → (toAt s j).length ≤ 12 ∧ ∀ t ∈ toAt s j,0 ≤ t ∧ t < (s.ks.length : Int)) (hlab : ∀ j,j < s.ks.length → (s.ns.getD j n0).ls = [] ∨ (s.ns.getD j n0).ls.length = (toAt s j).length) :
 SFn Tryd.prog Γ 76 [.ref 0 0] [(0,.cells (bdC A B)),(1,.mp M),(2,.row 4 (s.ns.map Nd.d)),(3,.row 1 (s.sm.map bD)),(4,.row 1 (F.map bD))] (.d (.slc ((leftP s F).map Nd.d)))
  [(0,.cells (bdC A B)),(1,.mp M),(2,.row 4 (s.ns.map Nd.d)),(3,.row 1 (s.sm.map bD)),(4,.row 1 (F.map bD))]:=by
 obtain ⟨R,hR⟩ : ∃ R,leftP s F = R:=⟨_,rfl⟩
 rw [hR]
 unfold leftP at hR
 have hSG:=SG_len s F
 obtain ⟨cl,hcl⟩ : ∃ cl,idC s.ks.length = cl:=⟨_,rfl⟩
 have hci : ∀ k : Int,0 ≤ k ∧ k < (s.ks.length : Int) → cOf cl k = k:=fun k hk=>by rw [← hcl];exact idC_at hk
 rw [hcl] at hR
 clear hcl
 have hc00 : cOf cl 0 = 0:=hci 0 ⟨Int.le_refl _,by omega⟩
 have hko0:=keyOK_mI 0 []
 have hset0 : setM (.int .i64 0) (.int .i64 0) [] = mI 0 [0]:=rfl
 rw [show mI 0 [] = [] from rfl] at hko0
 simp only [bdC]
 refine sfn_of_swp (N:=96) Tryd.func76 rfl (by decide) rfl rfl (by simp) (fun C h0=>?_)
 simp only [argS]
 repeat' (first|(with_reducible apply zz1)|((with_reducible refine zz4 ?_ ?_);rfl)|((with_reducible refine zz2 ?_ (fun K' hK'=>?_));rfl;simp only [WD,simprocAttr,hko0,hset0];(repeat (refine And.intro ?_ ?_;focus (clear hK';intros;simp_all;done)));(try (refine hK' _ _ ?_;clear hK' K')))|((with_reducible refine zz3 ?_ ?_);rfl;refine ⟨_,rfl,fun h=>?_,fun h=>?_⟩ <;> try exact absurd h (by decide)))
 -- TRACE
 refine swp_nil 5 7 4 rfl rfl (by decide) ?_
 simp only [WD,simprocAttr]
 repeat' (first|(with_reducible apply zz1)|((with_reducible refine zz4 ?_ ?_);rfl)|((with_reducible refine zz2 ?_ (fun K' hK'=>?_));rfl;simp only [WD,simprocAttr];(repeat (refine And.intro ?_ ?_;focus (clear hK';intros;simp_all;done)));(try (refine hK' _ _ ?_;clear hK' K')))|((with_reducible refine zz3 ?_ ?_);rfl;refine ⟨_,rfl,fun h=>?_,fun h=>?_⟩ <;> try exact absurd h (by decide)))
 refine swp_loop (α := Nat × List Int × List Nd) (fun q=>[(0,.ref 0 0),(3,.mp 5),(4,.own 6),(5,.own 7),(6,.d (iD q.1))]) (fun q=>[(0,.cells [.d (.slc (A.map Nd.d)),.d (.slc (B.map Nd.d)),.mp 1,.own 2,.own 3,.own 4]),(1,.mp M),(2,.row 4 (s.ns.map Nd.d)),(3,.row 1 (s.sm.map bD)),(4,.row 1 (F.map bD)),(5,.mp (mI 0 (q.2.1.map (cOf cl)))),(6,.row 1 (q.2.1.map iD)),(7,.row 4 (q.2.2.map Nd.d))])
  (fun q=>q.1 ≤ q.2.1.length ∧ OrdI cl s.ks.length q.2.1 ∧ q.2.2.length = q.1 ∧ (∀ v ∈ q.2.1,fAt F v = false) ∧ ∃ f,s.ks.length + 1 - q.1 ≤ f ∧ lstF (SG s F) cl f q.1 q.2.1 q.2.2 = R) (fun q=>s.ks.length + 1 - q.1)
  (0,[0],[]) ⟨by simp,⟨by simp;omega,by simp⟩,rfl,(fun v hv=>by rw [List.mem_singleton] at hv;subst hv;exact hl0),_,Nat.le_refl _,hR⟩ (by refine sub_of h0 ?_ ?_ ?_ <;> simp only [US,WD,simprocAttr,hc00,List.map_cons,List.map_nil]) (fun q hq=>?_)
 obtain ⟨at',ord,out⟩:=q
 obtain ⟨hat,hord,hout,hliv,f,hf,hR⟩:=hq
 simp only at hat hord hout hliv hf hR
 have hol:=hord.len
 have ha0 : (0 : Int) ≤ (at' : Int):=by omega
 by_cases hlt : at' < ord.length
 rotate_left
 · have ha1 : ¬ (at' : Int) < (ord.length : Int):=by omega
   have : R = out:=by
    rw [← hR]
    cases f with
    | zero=>rfl
    | succ f =>
     unfold lstF
     rw [List.getElem?_eq_none (by omega)]
   rw [this]
   repeat' (first|(with_reducible apply zz1)|((with_reducible refine zz4 ?_ ?_);rfl)|((with_reducible refine zz2 ?_ (fun K' hK'=>?_));rfl;simp only [WD,simprocAttr,ha1,List.length_map];(repeat (refine And.intro ?_ ?_;focus (clear hK';intros;simp_all;done)));(try (refine hK' _ _ ?_;clear hK' K')))|((with_reducible refine zz3 ?_ ?_);rfl;refine ⟨_,rfl,fun h=>?_,fun h=>?_⟩ <;> try exact absurd h (by decide)))
   simp only [KretS,retL,retOne,oneV,US,WD,simprocAttr,h0]
 obtain ⟨v,hv⟩ : ∃ v,ord[at']? = some v:=⟨ord[at'],by simp [hlt]⟩
 have hvr:=hord.r v (List.mem_of_getElem? hv)
 have hvl:=hliv v (List.mem_of_getElem? hv)
 have hvn : v.toNat < s.ks.length:=by omega
 have hvg : (ord.map iD).getD at' default = iD v:=by simp [List.getD,hv]
 have hget : (s.ns.map Nd.d).getD v.toNat default = (s.ns.getD v.toNat n0).d:=by simp [List.getD,show v.toNat < s.ns.length by omega]
 have hsg : (SG s F)[v.toNat]? = some (sgN s F v.toNat):=by
  unfold SG
  rw [List.getElem?_map,List.getElem?_range hvn];rfl
 obtain ⟨hto6,htr⟩:=hto v.toNat hvn
 have hll:=hlab v.toNat hvn
 obtain ⟨f,rfl⟩ : ∃ f',f = f' + 1:=⟨f - 1,by omega⟩
 unfold lstF at hR
 simp only [hv,hsg] at hR
 have hsgN : sgN s F v.toNat = ⟨(s.ns.getD v.toNat n0).k,(s.ns.getD v.toNat n0).so,(((s.ns.getD v.toNat n0).ls.zip (s.ns.getD v.toNat n0).to).filter fun p => !fAt F p.2).map (·.1),(s.ns.getD v.toNat n0).to.filter fun t => !fAt F t⟩:=by
  unfold sgN
  rw [if_neg (by unfold fAt at hvl;rw [hvl];decide)]
 rw [hsgN] at hR
 have hT : toAt s v.toNat = (s.ns.getD v.toNat n0).to:=rfl
 rw [hT] at hto6 htr hll
 clear hsgN hsg hT
 generalize s.ns.getD v.toNat n0 = X at *
 obtain ⟨k,so,ls,to⟩:=X
 simp only [Nd.d] at hget
 simp only at hto6 htr hll hR
 have ha1 : (at' : Int) < (ord.length : Int):=by omega
 have hv0 : (0 : Int) ≤ v:=hvr.1
 have hv1 : v < (s.ns.length : Int):=by omega
 have hw1 : IntKind.i64.wrap ((at' : Int) + 1) = ((at' + 1 : Nat) : Int):=by rw [wrap_in (by omega) (by omega)];omega
 have hnout : (out.length + 1) * 64 ≤ 140737488355328:=by omega
 have hnout2 : out.length + 1 ≤ maxLen:=by unfold maxLen;omega
 repeat' (first|(with_reducible apply zz1)|((with_reducible refine zz4 ?_ ?_);rfl)|((with_reducible refine zz2 ?_ (fun K' hK'=>?_));rfl;simp only [WD,simprocAttr,Int.toNat_natCast,ha0,ha1,List.length_map];(repeat (refine And.intro ?_ ?_;focus (clear hK';intros;simp_all;done)));(try (refine hK' _ _ ?_;clear hK' K')))|((with_reducible refine zz3 ?_ ?_);rfl;refine ⟨_,rfl,fun h=>?_,fun h=>?_⟩ <;> try exact absurd h (by decide)))
 -- TRACE
 (with_reducible refine swp_drawX ?_ ?_ ?_ (⟨⟨[],[]⟩,[],[],[],[]⟩) _ rfl (fun K' hK' gops fin hgops hfin=>?_)
  · kernel_rfl
  · rfl
  · rfl
  repeat' first
   | (refine vcX_dead rfl trivial (by simp only [WD,simprocAttr,UX,UA];rfl) (by simp only [List.nil_append,List.cons_append];rfl) (by simp only [zn2];rfl) ?_)
   | (refine vcX_step rfl rfl trivial (by simp only [WD,simprocAttr,UX,UA,hvg,hget,ha0,ha1,hv0,hv1,Int.toNat_natCast,List.length_map ];rfl) ?_ (by simp only [WD,simprocAttr,UX,UA];rfl) (by simp only [WD,simprocAttr,UX,UA];rfl) (by simp only [List.nil_append,List.cons_append];rfl) (by simp only [zn2];rfl) ?_;focus (first | trivial | ((repeat' (refine And.intro ?_ ?_)) <;> first | trivial | assumption | (clear hK' hfin hgops;intros;simp_all;done))))
  (refine vcX_nil (by subst hfin;kernel_rfl) ?_)
  clear hfin hgops fin gops
  (try (refine hK' _ _ ?_;clear hK' K')))
 repeat' (first|(with_reducible apply zz1)|((with_reducible refine zz4 ?_ ?_);rfl)|((with_reducible refine zz2 ?_ (fun K' hK'=>?_));rfl;simp only [WD,simprocAttr,List.length_map];(repeat (refine And.intro ?_ ?_;focus (clear hK';intros;simp_all;done)));(try (refine hK' _ _ ?_;clear hK' K')))|((with_reducible refine zz3 ?_ ?_);rfl;refine ⟨_,rfl,fun h=>?_,fun h=>?_⟩ <;> try exact absurd h (by decide)))
 -- TRACE
 refine swp_nilB 19 2 20 1 rfl rfl rfl (by decide) ?_
 simp only [WD,simprocAttr]
 refine swp_nilB 19 3 21 1 rfl rfl rfl (by decide) ?_
 simp only [WD,simprocAttr]
 refine swp_loop (α := Nat × List Int × List Int) (fun q=>[(0,.ref 0 0),(3,.mp 5),(4,.own 6),(5,.own 7),(6,.d (iD at')),(7,.ref 18 0),(8,.ref 19 0),(38,.d (.slc (to.map iD))),(39,.d (iD to.length)),(40,.d (iD q.1))])
  (fun q=>[(0,.cells [.d (.slc (A.map Nd.d)),.d (.slc (B.map Nd.d)),.mp 1,.own 2,.own 3,.own 4]),(1,.mp M),(2,.row 4 (s.ns.map Nd.d)),(3,.row 1 (s.sm.map bD)),(4,.row 1 (F.map bD)),(5,.mp (mI 0 (q.2.2.map (cOf cl)))),(6,.row 1 (q.2.2.map iD)),(7,.row 4 (out.map Nd.d)),(18,.cells [.d (iD k),.d (iD so),.d (.slc (ls.map sD)),.d (.slc (to.map iD))]),(19,.cells [.d (iD k),.d (iD so),.own 20,.own 21]),(20,.row 1 ((lsF F ls to q.1).map sD)),(21,.row 1 (q.2.1.map iD))])
  (fun q=>q.1 ≤ to.length ∧ rowO cl ((to.take q.1).filter fun t => !fAt F t) ord = q.2) (fun q=>to.length - q.1) (0,[],ord) ⟨Nat.zero_le _,rfl⟩ (by simp only [lsF,List.take_zero,List.filter_nil,List.map_nil];refine sub_of h0 ?_ ?_ ?_ <;> simp only [US,WD,simprocAttr,List.map_nil]) (fun q hq=>?_)
 obtain ⟨j,to',ord'⟩:=q
 obtain ⟨hj,hq⟩:=hq
 simp only at hj hq
 have hj0 : (0 : Int) ≤ (j : Int):=by omega
 have hfr : ∀ k ∈ (to.take j).filter (fun t => !fAt F t),0 ≤ k ∧ k < (s.ks.length : Int):=fun k hk=>htr k (List.mem_of_mem_take (List.mem_filter.1 hk).1)
 have hord' : OrdI cl s.ks.length ord':=by
  have:=OrdI.row (to:=(to.take j).filter fun t => !fAt F t) hord hfr
  rw [hq] at this
  exact this
 have hol':=hord'.len
 have hto' : to'.length ≤ j:=by
  have:=rowO_len cl ((to.take j).filter fun t => !fAt F t) ord
  rw [hq] at this
  have h2:=List.length_filter_le (fun t => !fAt F t) (to.take j)
  simp only [List.length_take] at this h2
  omega
 by_cases hjl : j < to.length
 rotate_left
 · have hj1 : ¬ (j : Int) < (to.length : Int):=by omega
   rw [List.take_of_length_le (by omega)] at hq
   rw [hq] at hR
   simp only at hR
   have hls:=lsF_all F ls to (i:=j) (by omega)
   rw [← hls] at hR
   have hm : out.map Nd.d ++ [.agg [iD k,iD so,.slc ((lsF F ls to j).map sD),.slc (to'.map iD)]] = (out ++ [(⟨k,so,lsF F ls to j,to'⟩ : Nd)]).map Nd.d:=by simp [Nd.d]
   have hsub:=rowO_sub cl (to.filter fun t => !fAt F t) ord
   rw [hq] at hsub
   simp only at hsub
   have hliv2 : ∀ w ∈ ord',fAt F w = false:=fun w hw=>by
    have:=rowO_in cl (to.filter fun t => !fAt F t) ord w (by rw [hq];exact hw)
    rcases this with h | h
    · exact hliv w h
    · have:=(List.mem_filter.1 h).2
      simpa using this
   refine swp_frz [20,21] h0 (by simp only [Option.isSome_some,UF,WD,simprocAttr]) ?_
   simp only [WD,simprocAttr,UF]
   repeat' (first|(with_reducible apply zz1)|((with_reducible refine zz4 ?_ ?_);rfl)|((with_reducible refine zz2 ?_ (fun K' hK'=>?_));rfl;simp only [WD,simprocAttr,hj1,hnout,hnout2,hm,hw1,List.length_map];(repeat (refine And.intro ?_ ?_;focus (clear hK';intros;simp_all;done)));(try (refine hK' _ _ ?_;clear hK' K')))|((with_reducible refine zz3 ?_ ?_);rfl;refine ⟨_,rfl,fun h=>?_,fun h=>?_⟩ <;> try exact absurd h (by decide)))
   refine ⟨(at' + 1,ord',out ++ [⟨k,so,lsF F ls to j,to'⟩]),⟨(by show at' + 1 ≤ ord'.length;omega),hord',(by simp [hout]),hliv2,f,(by show s.ks.length + 1 - (at' + 1) ≤ f;omega),hR⟩,(by show s.ks.length + 1 - (at' + 1) < s.ks.length + 1 - at';omega),by refine sub_of h0 ?_ ?_ ?_ <;> simp only [US,WD,simprocAttr]⟩
 obtain ⟨y,hy⟩ : ∃ y,to[j]? = some y:=⟨to[j],by simp [hjl]⟩
 have hyr:=htr y (List.mem_of_getElem? hy)
 have hyg : (to.map iD).getD j default = iD y:=by simp [List.getD,hy]
 have hgf : (F.map bD).getD y.toNat default = bD (F.getD y.toNat false):=by simp [List.getD,show y.toNat < F.length by omega]
 have hdc : cOf cl y = y:=hci y hyr
 have hy0 : (0 : Int) ≤ y:=hyr.1
 have hy1 : y < (F.length : Int):=by omega
 have hj1 : (j : Int) < (to.length : Int):=by omega
 have hw2 : IntKind.i64.wrap ((j : Int) + 1) = ((j + 1 : Nat) : Int):=by rw [wrap_in (by omega) (by omega)];omega
 have htk1 : to.take (j + 1) = to.take j ++ [y]:=by rw [List.take_add_one,hy];rfl
 have hfs:=filt_snoc (F:=F) (to.take j) y
 rw [← htk1] at hfs
 cases hfy : fAt F y with
 | true =>
  rw [hfy,if_pos rfl,List.append_nil] at hfs
  have hlss : lsF F ls to (j + 1) = lsF F ls to j:=by
   rcases hll with e | e
   · subst e;rw [lsF_nil,lsF_nil]
   · obtain ⟨l,hl⟩ : ∃ l,ls[j]? = some l:=⟨ls[j]'(by omega),by simp⟩
     rw [lsF_succ hl hy,hfy,if_pos rfl,List.append_nil]
  unfold fAt at hfy
  rw [hfy] at hgf
  repeat' (first|(with_reducible apply zz1)|((with_reducible refine zz4 ?_ ?_);rfl)|((with_reducible refine zz2 ?_ (fun K' hK'=>?_));rfl;simp only [WD,simprocAttr,Int.toNat_natCast,hyg,hj0,hj1,hy0,hy1,hgf,hw2,List.length_map];(repeat (refine And.intro ?_ ?_;focus (clear hK';intros;simp_all;done)));(try (refine hK' _ _ ?_;clear hK' K')))|((with_reducible refine zz3 ?_ ?_);rfl;refine ⟨_,rfl,fun h=>?_,fun h=>?_⟩ <;> try exact absurd h (by decide)))
  refine ⟨(j + 1,to',ord'),⟨(by show j + 1 ≤ to.length;omega),(by rw [hfs];exact hq)⟩,(by show to.length - (j + 1) < to.length - j;omega),by simp only [hlss];refine sub_of h0 ?_ ?_ ?_ <;> simp only [US,WD,simprocAttr]⟩
 | false =>
 rw [hfy,if_neg (by decide)] at hfs
 have hlss : lsF F ls to (j + 1) = lsF F ls to j ++ (if ls = [] then [] else [ls.getD j noB]):=by
  rcases hll with e | e
  · subst e;rw [lsF_nil,lsF_nil,if_pos rfl];rfl
  · obtain ⟨l,hl⟩ : ∃ l,ls[j]? = some l:=⟨ls[j]'(by omega),by simp⟩
    have hne : ls ≠ []:=fun e=>by rw [e] at hl;simp at hl
    rw [lsF_succ hl hy,hfy,if_neg (by decide),if_neg hne]
    simp [List.getD,hl]
 have hfy2:=hfy
 unfold fAt at hfy
 rw [hfy] at hgf
 have htk:=rowO_snoc cl y ((to.take j).filter fun t => !fAt F t) ord
 rw [← hfs,hq,hdc] at htk
 simp only at htk
 have hko:=keyOK_mI y (ord'.map (cOf cl))
 have hfind:=find_mI y (ord'.map (cOf cl)) 0
 have hn3 : (to'.length + 1) * 8 ≤ 140737488355328:=by omega
 have hn4 : to'.length + 1 ≤ maxLen:=by unfold maxLen;omega
 have hlsn : (lsF F ls to j).length ≤ 12:=by
  unfold lsF
  rw [List.length_map]
  refine Nat.le_trans (List.length_filter_le _ _) ?_
  simp
  omega
 have hn7 : ((lsF F ls to j).length + 1) * 16 ≤ 140737488355328:=by omega
 have hn8 : (lsF F ls to j).length + 1 ≤ maxLen:=by unfold maxLen;omega
 cases hix : ixI y (ord'.map (cOf cl)) 0 with
 | some p =>
  rw [hix] at hfind
  simp only [Option.map_some] at hfind
  have hadd : addO cl ord' y = ord':=by unfold addO;rw [hdc,hix]
  have hpl : plI y (ord'.map (cOf cl)) = (p : Int):=by unfold plI;rw [hix];rfl
  rw [hadd,hpl] at htk
  have hm : to'.map iD ++ [iD (p : Int)] = (to' ++ [(p : Int)]).map iD:=by simp
  by_cases hl0 : ls = []
  · have g0 : ¬ (0 : Int) < (ls.length : Int):=by rw [hl0];decide
    rw [if_pos hl0,List.append_nil] at hlss
    repeat' (first|(with_reducible apply zz1)|((with_reducible refine zz4 ?_ ?_);rfl)|((with_reducible refine zz2 ?_ (fun K' hK'=>?_));rfl;simp only [WD,simprocAttr,Int.toNat_natCast,hyg,hj0,hj1,hy0,hy1,hgf,hko,hfind,hn3,hn4,hm,List.length_map,Bool.not_true,Bool.not_false,g0,hw2];(repeat (refine And.intro ?_ ?_;focus (clear hK';intros;simp_all;done)));(try (refine hK' _ _ ?_;clear hK' K')))|((with_reducible refine zz3 ?_ ?_);rfl;refine ⟨_,rfl,fun h=>?_,fun h=>?_⟩ <;> try exact absurd h (by decide)))
    refine ⟨(j + 1,to' ++ [(p : Int)],ord'),⟨(by show j + 1 ≤ to.length;omega),htk⟩,(by show to.length - (j + 1) < to.length - j;omega),by simp only [hlss];refine sub_of h0 ?_ ?_ ?_ <;> simp only [US,WD,simprocAttr]⟩
  · have hle : ls.length = to.length:=hll.elim (fun e=>absurd e hl0) id
    have g0 : (0 : Int) < (ls.length : Int):=by omega
    have g3 : (j : Int) < (ls.length : Int):=by omega
    have hlg : (ls.map sD).getD j default = sD (ls.getD j noB):=by simp [List.getD,show j < ls.length by omega]
    rw [if_neg hl0] at hlss
    have hm5 : (lsF F ls to j).map sD ++ [sD (ls.getD j noB)] = (lsF F ls to (j + 1)).map sD:=by rw [hlss];simp
    repeat' (first|(with_reducible apply zz1)|((with_reducible refine zz4 ?_ ?_);rfl)|((with_reducible refine zz2 ?_ (fun K' hK'=>?_));rfl;simp only [WD,simprocAttr,Int.toNat_natCast,hyg,hj0,hj1,hy0,hy1,hgf,hko,hfind,hn3,hn4,hm,List.length_map,Bool.not_true,Bool.not_false,g0];(repeat (refine And.intro ?_ ?_;focus (clear hK';intros;simp_all;done)));(try (refine hK' _ _ ?_;clear hK' K')))|((with_reducible refine zz3 ?_ ?_);rfl;refine ⟨_,rfl,fun h=>?_,fun h=>?_⟩ <;> try exact absurd h (by decide)))
    -- TRACE
    (with_reducible refine swp_drawX ?_ ?_ ?_ (⟨⟨[],[]⟩,[],[],[],[]⟩) _ rfl (fun K' hK' gops fin hgops hfin=>?_)
     · kernel_rfl
     · rfl
     · rfl
     repeat' first
      | (refine vcX_dead rfl trivial (by simp only [WD,simprocAttr,UX,UA];rfl) (by simp only [List.nil_append,List.cons_append];rfl) (by simp only [zn2];rfl) ?_)
      | (refine vcX_step rfl rfl trivial (by simp only [WD,simprocAttr,UX,UA,hlg,hj0,g3,hn7,hn8,hm5,Int.toNat_natCast,List.length_map ];rfl) ?_ (by simp only [WD,simprocAttr,UX,UA];rfl) (by simp only [WD,simprocAttr,UX,UA];rfl) (by simp only [List.nil_append,List.cons_append];rfl) (by simp only [zn2];rfl) ?_;focus (first | trivial | ((repeat' (refine And.intro ?_ ?_)) <;> first | trivial | assumption | (clear hK' hfin hgops;intros;simp_all;done))))
     (refine vcX_nil (by subst hfin;kernel_rfl) ?_)
     clear hfin hgops fin gops
     (try (refine hK' _ _ ?_;clear hK' K')))
    repeat' (first|(with_reducible apply zz1)|((with_reducible refine zz4 ?_ ?_);rfl)|((with_reducible refine zz2 ?_ (fun K' hK'=>?_));rfl;simp only [WD,simprocAttr,hw2];(repeat (refine And.intro ?_ ?_;focus (clear hK';intros;simp_all;done)));(try (refine hK' _ _ ?_;clear hK' K')))|((with_reducible refine zz3 ?_ ?_);rfl;refine ⟨_,rfl,fun h=>?_,fun h=>?_⟩ <;> try exact absurd h (by decide)))
    refine ⟨(j + 1,to' ++ [(p : Int)],ord'),⟨(by show j + 1 ≤ to.length;omega),htk⟩,(by show to.length - (j + 1) < to.length - j;omega),by refine sub_of h0 ?_ ?_ ?_ <;> simp only [US,WD,simprocAttr]⟩
 | none =>
  rw [hix] at hfind
  simp only [Option.map_none] at hfind
  have hset:=set_mI y (ord'.map (cOf cl)) 0 0 hix
  rw [Nat.zero_add,List.length_map] at hset
  have hadd : addO cl ord' y = ord' ++ [y]:=by unfold addO;rw [hdc,hix]
  have hmc : ord'.map (cOf cl) ++ [y] = (ord' ++ [y]).map (cOf cl):=by rw [List.map_append,List.map_cons,List.map_nil,hdc]
  have hix2:=ixI_none_app hix
  rw [Nat.zero_add,List.length_map,hmc] at hix2
  rw [hmc] at hset
  have hfind2:=find_mI y ((ord' ++ [y]).map (cOf cl)) 0
  rw [hix2] at hfind2
  simp only [Option.map_some] at hfind2
  have hko2:=keyOK_mI y ((ord' ++ [y]).map (cOf cl))
  have hpl : plI y ((ord' ++ [y]).map (cOf cl)) = (ord'.length : Int):=by unfold plI;rw [hix2];rfl
  rw [hadd,hpl] at htk
  have hm : to'.map iD ++ [iD (ord'.length : Int)] = (to' ++ [(ord'.length : Int)]).map iD:=by simp
  have hm2 : ord'.map iD ++ [iD y] = (ord' ++ [y]).map iD:=by simp
  have hn5 : (ord'.length + 1) * 8 ≤ 140737488355328:=by omega
  have hn6 : ord'.length + 1 ≤ maxLen:=by unfold maxLen;omega
  by_cases hl0 : ls = []
  · have g0 : ¬ (0 : Int) < (ls.length : Int):=by rw [hl0];decide
    rw [if_pos hl0,List.append_nil] at hlss
    repeat' (first|(with_reducible apply zz1)|((with_reducible refine zz4 ?_ ?_);rfl)|((with_reducible refine zz2 ?_ (fun K' hK'=>?_));rfl;simp only [WD,simprocAttr,Int.toNat_natCast,hyg,hj0,hj1,hy0,hy1,hgf,hko,hfind,hko2,hfind2,hset,hn3,hn4,hn5,hn6,hm,hm2,List.length_map,Bool.not_true,Bool.not_false,g0,hw2];(repeat (refine And.intro ?_ ?_;focus (clear hK';intros;simp_all;done)));(try (refine hK' _ _ ?_;clear hK' K')))|((with_reducible refine zz3 ?_ ?_);rfl;refine ⟨_,rfl,fun h=>?_,fun h=>?_⟩ <;> try exact absurd h (by decide)))
    refine ⟨(j + 1,to' ++ [(ord'.length : Int)],ord' ++ [y]),⟨(by show j + 1 ≤ to.length;omega),htk⟩,(by show to.length - (j + 1) < to.length - j;omega),by simp only [hlss];refine sub_of h0 ?_ ?_ ?_ <;> simp only [US,WD,simprocAttr]⟩
  · have hle : ls.length = to.length:=hll.elim (fun e=>absurd e hl0) id
    have g0 : (0 : Int) < (ls.length : Int):=by omega
    have g3 : (j : Int) < (ls.length : Int):=by omega
    have hlg : (ls.map sD).getD j default = sD (ls.getD j noB):=by simp [List.getD,show j < ls.length by omega]
    rw [if_neg hl0] at hlss
    have hm5 : (lsF F ls to j).map sD ++ [sD (ls.getD j noB)] = (lsF F ls to (j + 1)).map sD:=by rw [hlss];simp
    repeat' (first|(with_reducible apply zz1)|((with_reducible refine zz4 ?_ ?_);rfl)|((with_reducible refine zz2 ?_ (fun K' hK'=>?_));rfl;simp only [WD,simprocAttr,Int.toNat_natCast,hyg,hj0,hj1,hy0,hy1,hgf,hko,hfind,hko2,hfind2,hset,hn3,hn4,hn5,hn6,hm,hm2,List.length_map,Bool.not_true,Bool.not_false,g0];(repeat (refine And.intro ?_ ?_;focus (clear hK';intros;simp_all;done)));(try (refine hK' _ _ ?_;clear hK' K')))|((with_reducible refine zz3 ?_ ?_);rfl;refine ⟨_,rfl,fun h=>?_,fun h=>?_⟩ <;> try exact absurd h (by decide)))
    -- TRACE
    (with_reducible refine swp_drawX ?_ ?_ ?_ (⟨⟨[],[]⟩,[],[],[],[]⟩) _ rfl (fun K' hK' gops fin hgops hfin=>?_)
     · kernel_rfl
     · rfl
     · rfl
     repeat' first
      | (refine vcX_dead rfl trivial (by simp only [WD,simprocAttr,UX,UA];rfl) (by simp only [List.nil_append,List.cons_append];rfl) (by simp only [zn2];rfl) ?_)
      | (refine vcX_step rfl rfl trivial (by simp only [WD,simprocAttr,UX,UA,hlg,hj0,g3,hn7,hn8,hm5,Int.toNat_natCast,List.length_map ];rfl) ?_ (by simp only [WD,simprocAttr,UX,UA];rfl) (by simp only [WD,simprocAttr,UX,UA];rfl) (by simp only [List.nil_append,List.cons_append];rfl) (by simp only [zn2];rfl) ?_;focus (first | trivial | ((repeat' (refine And.intro ?_ ?_)) <;> first | trivial | assumption | (clear hK' hfin hgops;intros;simp_all;done))))
     (refine vcX_nil (by subst hfin;kernel_rfl) ?_)
     clear hfin hgops fin gops
     (try (refine hK' _ _ ?_;clear hK' K')))
    repeat' (first|(with_reducible apply zz1)|((with_reducible refine zz4 ?_ ?_);rfl)|((with_reducible refine zz2 ?_ (fun K' hK'=>?_));rfl;simp only [WD,simprocAttr,hw2];(repeat (refine And.intro ?_ ?_;focus (clear hK';intros;simp_all;done)));(try (refine hK' _ _ ?_;clear hK' K')))|((with_reducible refine zz3 ?_ ?_);rfl;refine ⟨_,rfl,fun h=>?_,fun h=>?_⟩ <;> try exact absurd h (by decide)))
    refine ⟨(j + 1,to' ++ [(ord'.length : Int)],ord' ++ [y]),⟨(by show j + 1 ≤ to.length;omega),htk⟩,(by show to.length - (j + 1) < to.length - j;omega),by refine sub_of h0 ?_ ?_ ?_ <;> simp only [US,WD,simprocAttr]⟩
end Go.Proofs.YtgecnlcbdbaneaaDoor
