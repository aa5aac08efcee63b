/- below.bound's left; a symbolic walk. -/
-- TYPESD
import Derived.Test.YtgecnlcbdbaneaaDoorKY1
set_option linter.unusedVariables false
set_option linter.unusedSimpArgs false
namespace Go.Proofs.YtgecnlcbdbaneaaDoor
open Go.RowKit Go.Sw
open _root_.List renaming length_map → za, getD → ze, nil_append → zf, cons_append → zh, map_nil → zi, append_nil → zm, mem_of_getElem? → zq, filter_append → zu, filter_cons → zw, take_add_one → zx, map_append → zy, take_of_length_le → za1, map_cons → zb1, length_filter_le → zc1
open _root_.Int renaming toNat_natCast → zb
open _root_.Bool renaming not_true → zn, not_false → zo
open Nat renaming reduceAdd → zn2

theorem yb4 {F : List Bool} (l : List Int) (t : Int) : (l ++ [t]).filter (fun t => !fAt F t) = l.filter (fun t => !fAt F t) ++ (if fAt F t = true then [] else [t]):=by
 rw [zu,zw]
 cases fAt F t <;> simp
def lsF (F : List Bool) (ls : List ByteArray) (to : List Int) (i : Nat) : List ByteArray:=(((ls.zip to).take i).filter fun p => !fAt F p.2).map (·.1)
theorem vv2 (F : List Bool) (to : List Int) (i : Nat) : lsF F [] to i = []:=by simp [lsF]
theorem xn5 {F : List Bool} {ls : List ByteArray} {to : List Int} {i : Nat} {l : ByteArray} {t : Int} (hl : ls[i]? = some l) (ht : to[i]? = some t) : lsF F ls to (i + 1) = lsF F ls to i ++ (if fAt F t = true then [] else [l]):=by
 unfold lsF
 have : (ls.zip to)[i]? = some (l,t):=by rw [List.getElem?_zip_eq_some];exact ⟨hl,ht⟩
 rw [zx,this]
 simp only [Option.toList_some,zu,zw,zy]
 cases fAt F t <;> simp
theorem lsF_all (F : List Bool) (ls : List ByteArray) (to : List Int) {i : Nat} (h : to.length ≤ i) : lsF F ls to i = ((ls.zip to).filter fun p => !fAt F p.2).map (·.1):=by
 unfold lsF
 rw [za1 (by simp;omega)]
set_option maxHeartbeats 16000000 in
set_option maxRecDepth 100000 in
theorem left_fn (Γ : Gl) (A B : List Nd) (M : List (Value × Value)) (s : Bd) (F : List Bool) (h1 : s.ns.length = s.ks.length) (hF : F.length = s.ks.length) (hn : s.ks.length ≤ 100000) (hpos : 0 < s.ks.length) (hl0 : F.getD 0 false = false)
 (hto : ∀ j,j < s.ks.length → (qj2 s j).length ≤ 12 ∧ ∀ t ∈ qj2 s j,0 ≤ t ∧ t < (s.ks.length : Int)) (hlab : ∀ j,j < s.ks.length → (s.ns.getD j n0).ls = [] ∨ (s.ns.getD j n0).ls.length = (qj2 s j).length) :
 SFn Tryd.prog Γ 76 [.ref 0 0] [(0,.cells (bdC A B)),(1,.mp M),(2,.row 4 (s.ns.map Nd.d)),(3,.row 1 (s.sm.map bD)),(4,.row 1 (F.map bD))] (.d (.slc ((ve6 s F).map Nd.d)))
  [(0,.cells (bdC A B)),(1,.mp M),(2,.row 4 (s.ns.map Nd.d)),(3,.row 1 (s.sm.map bD)),(4,.row 1 (F.map bD))]:=by
 obtain ⟨R,hR⟩ : ∃ R,ve6 s F = R:=⟨_,rfl⟩
 rw [hR]
 unfold ve6 at hR
 have hSG:=yi2 s F
 obtain ⟨cl,hcl⟩ : ∃ cl,idC s.ks.length = cl:=⟨_,rfl⟩
 have hci : ∀ k : Int,0 ≤ k ∧ k < (s.ks.length : Int) → cOf cl k = k:=fun k hk=>by rw [← hcl];exact yl0 hk
 rw [hcl] at hR
 clear hcl
 have hc00 : cOf cl 0 = 0:=hci 0 ⟨Int.le_refl _,by omega⟩
 have hko0:=qu6 0 []
 have hset0 : vn3 (.int .i64 0) (.int .i64 0) [] = mI 0 [0]:=rfl
 rw [show mI 0 [] = [] from rfl] at hko0
 simp only [bdC]
 refine qe0 (N:=96) Tryd.func76 rfl (by decide) rfl rfl (by simp) (fun C h0=>?_)
 simp only [vg9]
 repeat' (first|(with_reducible apply zz1)|((with_reducible apply zz2);rfl;intro K' hK';simp only [WD,simprocAttr,hko0,hset0];(repeat (constructor;focus (clear hK';intros;simp_all;done)));(try (apply hK';clear hK' K')))|((with_reducible apply zz3);rfl;all_goals (intro h;try exact absurd h (by decide))))
 -- TRACE
 refine qm9 5 7 4 rfl rfl (by decide) ?_
 simp only [WD,simprocAttr]
 repeat' (first|(with_reducible apply zz1)|((with_reducible apply zz2);rfl;intro K' hK';simp only [WD,simprocAttr];(repeat (constructor;focus (clear hK';intros;simp_all;done)));(try (apply hK';clear hK' K')))|((with_reducible apply zz3);rfl;all_goals (intro h;try exact absurd h (by decide))))
 refine qd3 (α := Nat × List Int × List Nd) (fun q=>[(0,.ref 0 0),(3,.mp 5),(4,.own 6),(5,.own 7),(6,.d (iD q.1))]) (fun q=>[(0,.cells [.d (.slc (A.map Nd.d)),.d (.slc (B.map Nd.d)),.mp 1,.own 2,.own 3,.own 4]),(1,.mp M),(2,.row 4 (s.ns.map Nd.d)),(3,.row 1 (s.sm.map bD)),(4,.row 1 (F.map bD)),(5,.mp (mI 0 (q.2.1.map (cOf cl)))),(6,.row 1 (q.2.1.map iD)),(7,.row 4 (q.2.2.map Nd.d))])
  (fun q=>q.1 ≤ q.2.1.length ∧ vo5 cl s.ks.length q.2.1 ∧ q.2.2.length = q.1 ∧ (∀ v ∈ q.2.1,fAt F v = false) ∧ ∃ f,s.ks.length + 1 - q.1 ≤ f ∧ vs8 (SG s F) cl f q.1 q.2.1 q.2.2 = R) (fun q=>s.ks.length + 1 - q.1)
  (0,[0],[]) ⟨by simp,⟨by simp;omega,by simp⟩,rfl,(fun v hv=>by rw [List.mem_singleton] at hv;subst hv;exact hl0),_,Nat.le_refl _,hR⟩ (by refine qa3 h0 ?_ ?_ ?_ <;> simp only [US,WD,simprocAttr,hc00,zb1,zi]) (fun q hq=>?_)
 obtain ⟨at',ord,out⟩:=q
 obtain ⟨hat,hord,hout,hliv,f,hf,hR⟩:=hq
 simp only at hat hord hout hliv hf hR
 have hol:=hord.len
 have ha0 : (0 : Int) ≤ (at' : Int):=by omega
 by_cases hlt : at' < ord.length
 rotate_left
 · have ha1 : ¬ (at' : Int) < (ord.length : Int):=by omega
   have : R = out:=by
    rw [← hR]
    cases f with
    | zero=>rfl
    | succ f =>
     unfold vs8
     rw [List.getElem?_eq_none (by omega)]
   rw [this]
   repeat' (first|(with_reducible apply zz1)|((with_reducible apply zz2);rfl;intro K' hK';simp only [WD,simprocAttr,ha1,za];(repeat (constructor;focus (clear hK';intros;simp_all;done)));(try (apply hK';clear hK' K')))|((with_reducible apply zz3);rfl;all_goals (intro h;try exact absurd h (by decide))))
   simp only [qf8,qd5,qa2,qd6,US,WD,simprocAttr,h0]
 obtain ⟨v,hv⟩ : ∃ v,ord[at']? = some v:=⟨ord[at'],by simp [hlt]⟩
 have hvr:=hord.r v (zq hv)
 have hvl:=hliv v (zq hv)
 have hvn : v.toNat < s.ks.length:=by omega
 have hvg : (ord.map iD).getD at' default = iD v:=by simp [ze,hv]
 have hget : (s.ns.map Nd.d).getD v.toNat default = (s.ns.getD v.toNat n0).d:=by simp [ze,show v.toNat < s.ns.length by omega]
 have hsg : (SG s F)[v.toNat]? = some (sgN s F v.toNat):=by
  unfold SG
  rw [List.getElem?_map,List.getElem?_range hvn];rfl
 obtain ⟨hto6,htr⟩:=hto v.toNat hvn
 have hll:=hlab v.toNat hvn
 obtain ⟨f,rfl⟩ : ∃ f',f = f' + 1:=⟨f - 1,by omega⟩
 unfold vs8 at hR
 simp only [hv,hsg] at hR
 have hsgN : sgN s F v.toNat = ⟨(s.ns.getD v.toNat n0).k,(s.ns.getD v.toNat n0).so,(((s.ns.getD v.toNat n0).ls.zip (s.ns.getD v.toNat n0).to).filter fun p => !fAt F p.2).map (·.1),(s.ns.getD v.toNat n0).to.filter fun t => !fAt F t⟩:=by
  unfold sgN
  rw [if_neg (by unfold fAt at hvl;rw [hvl];decide)]
 rw [hsgN] at hR
 have hT : qj2 s v.toNat = (s.ns.getD v.toNat n0).to:=rfl
 rw [hT] at hto6 htr hll
 clear hsgN hsg hT
 generalize s.ns.getD v.toNat n0 = X at *
 obtain ⟨k,so,ls,to⟩:=X
 simp only [Nd.d] at hget
 simp only at hto6 htr hll hR
 have ha1 : (at' : Int) < (ord.length : Int):=by omega
 have hv0 : (0 : Int) ≤ v:=hvr.1
 have hv1 : v < (s.ns.length : Int):=by omega
 have hw1 : IntKind.i64.wrap ((at' : Int) + 1) = ((at' + 1 : Nat) : Int):=by rw [qd7 (by omega) (by omega)];omega
 have hnout : (out.length + 1) * 64 ≤ 140737488355328:=by omega
 have hnout2 : out.length + 1 ≤ maxLen:=by unfold maxLen;omega
 repeat' (first|(with_reducible apply zz1)|((with_reducible apply zz2);rfl;intro K' hK';simp only [WD,simprocAttr,zb,ha0,ha1,za];(repeat (constructor;focus (clear hK';intros;simp_all;done)));(try (apply hK';clear hK' K')))|((with_reducible apply zz3);rfl;all_goals (intro h;try exact absurd h (by decide))))
 -- TRACE
 (with_reducible refine qa6 ?_ ?_ ?_ (⟨⟨[],[]⟩,[],[],[],[]⟩) _ rfl (fun K' hK' gops fin hgops hfin=>?_)
  · kernel_rfl
  · rfl
  · rfl
  repeat' first
   | (refine qa9 rfl trivial (by simp only [WD,simprocAttr,UX,UA];rfl) (by simp only [zf,zh];rfl) (by simp only [zn2];rfl) ?_)
   | (refine qa8 rfl rfl trivial (by simp only [WD,simprocAttr,UX,UA,hvg,hget,ha0,ha1,hv0,hv1,zb,za ];rfl) ?_ (by simp only [WD,simprocAttr,UX,UA];rfl) (by simp only [WD,simprocAttr,UX,UA];rfl) (by simp only [zf,zh];rfl) (by simp only [zn2];rfl) ?_;focus (first | trivial | ((repeat' constructor) <;> first | trivial | assumption | (clear hK' hfin hgops;intros;simp_all;done))))
  (refine qb5 (by subst hfin;kernel_rfl) ?_)
  clear hfin hgops fin gops
  (try (apply hK';clear hK' K')))
 repeat' (first|(with_reducible apply zz1)|((with_reducible apply zz2);rfl;intro K' hK';simp only [WD,simprocAttr,za];(repeat (constructor;focus (clear hK';intros;simp_all;done)));(try (apply hK';clear hK' K')))|((with_reducible apply zz3);rfl;all_goals (intro h;try exact absurd h (by decide))))
 -- TRACE
 refine qj4 19 2 20 1 rfl rfl rfl (by decide) ?_
 simp only [WD,simprocAttr]
 refine qj4 19 3 21 1 rfl rfl rfl (by decide) ?_
 simp only [WD,simprocAttr]
 refine qd3 (α := Nat × List Int × List Int) (fun q=>[(0,.ref 0 0),(3,.mp 5),(4,.own 6),(5,.own 7),(6,.d (iD at')),(7,.ref 18 0),(8,.ref 19 0),(38,.d (.slc (to.map iD))),(39,.d (iD to.length)),(40,.d (iD q.1))])
  (fun q=>[(0,.cells [.d (.slc (A.map Nd.d)),.d (.slc (B.map Nd.d)),.mp 1,.own 2,.own 3,.own 4]),(1,.mp M),(2,.row 4 (s.ns.map Nd.d)),(3,.row 1 (s.sm.map bD)),(4,.row 1 (F.map bD)),(5,.mp (mI 0 (q.2.2.map (cOf cl)))),(6,.row 1 (q.2.2.map iD)),(7,.row 4 (out.map Nd.d)),(18,.cells [.d (iD k),.d (iD so),.d (.slc (ls.map sD)),.d (.slc (to.map iD))]),(19,.cells [.d (iD k),.d (iD so),.own 20,.own 21]),(20,.row 1 ((lsF F ls to q.1).map sD)),(21,.row 1 (q.2.1.map iD))])
  (fun q=>q.1 ≤ to.length ∧ qv0 cl ((to.take q.1).filter fun t => !fAt F t) ord = q.2) (fun q=>to.length - q.1) (0,[],ord) ⟨Nat.zero_le _,rfl⟩ (by simp only [lsF,List.take_zero,List.filter_nil,zi];refine qa3 h0 ?_ ?_ ?_ <;> simp only [US,WD,simprocAttr,zi]) (fun q hq=>?_)
 obtain ⟨j,to',ord'⟩:=q
 obtain ⟨hj,hq⟩:=hq
 simp only at hj hq
 have hj0 : (0 : Int) ≤ (j : Int):=by omega
 have hfr : ∀ k ∈ (to.take j).filter (fun t => !fAt F t),0 ≤ k ∧ k < (s.ks.length : Int):=fun k hk=>htr k (List.mem_of_mem_take (List.mem_filter.1 hk).1)
 have hord' : vo5 cl s.ks.length ord':=by
  have:=vo5.row (to:=(to.take j).filter fun t => !fAt F t) hord hfr
  rw [hq] at this
  exact this
 have hol':=hord'.len
 have hto' : to'.length ≤ j:=by
  have:=qv9 cl ((to.take j).filter fun t => !fAt F t) ord
  rw [hq] at this
  have h2:=zc1 (fun t => !fAt F t) (to.take j)
  simp only [List.length_take] at this h2
  omega
 by_cases hjl : j < to.length
 rotate_left
 · have hj1 : ¬ (j : Int) < (to.length : Int):=by omega
   rw [za1 (by omega)] at hq
   rw [hq] at hR
   simp only at hR
   have hls:=lsF_all F ls to (i:=j) (by omega)
   rw [← hls] at hR
   have hm : out.map Nd.d ++ [.agg [iD k,iD so,.slc ((lsF F ls to j).map sD),.slc (to'.map iD)]] = (out ++ [(⟨k,so,lsF F ls to j,to'⟩ : Nd)]).map Nd.d:=by simp [Nd.d]
   have hsub:=qr7 cl (to.filter fun t => !fAt F t) ord
   rw [hq] at hsub
   simp only at hsub
   have hliv2 : ∀ w ∈ ord',fAt F w = false:=fun w hw=>by
    have:=xk5 cl (to.filter fun t => !fAt F t) ord w (by rw [hq];exact hw)
    rcases this with h | h
    · exact hliv w h
    · have:=(List.mem_filter.1 h).2
      simpa using this
   refine ql3 [20,21] h0 (by simp only [Option.isSome_some,UF,WD,simprocAttr]) ?_
   simp only [WD,simprocAttr,UF]
   repeat' (first|(with_reducible apply zz1)|((with_reducible apply zz2);rfl;intro K' hK';simp only [WD,simprocAttr,hj1,hnout,hnout2,hm,hw1,za];(repeat (constructor;focus (clear hK';intros;simp_all;done)));(try (apply hK';clear hK' K')))|((with_reducible apply zz3);rfl;all_goals (intro h;try exact absurd h (by decide))))
   refine ⟨(at' + 1,ord',out ++ [⟨k,so,lsF F ls to j,to'⟩]),⟨(by show at' + 1 ≤ ord'.length;omega),hord',(by simp [hout]),hliv2,f,(by show s.ks.length + 1 - (at' + 1) ≤ f;omega),hR⟩,(by show s.ks.length + 1 - (at' + 1) < s.ks.length + 1 - at';omega),by refine qa3 h0 ?_ ?_ ?_ <;> simp only [US,WD,simprocAttr]⟩
 obtain ⟨y,hy⟩ : ∃ y,to[j]? = some y:=⟨to[j],by simp [hjl]⟩
 have hyr:=htr y (zq hy)
 have hyg : (to.map iD).getD j default = iD y:=by simp [ze,hy]
 have hgf : (F.map bD).getD y.toNat default = bD (F.getD y.toNat false):=by simp [ze,show y.toNat < F.length by omega]
 have hdc : cOf cl y = y:=hci y hyr
 have hy0 : (0 : Int) ≤ y:=hyr.1
 have hy1 : y < (F.length : Int):=by omega
 have hj1 : (j : Int) < (to.length : Int):=by omega
 have hw2 : IntKind.i64.wrap ((j : Int) + 1) = ((j + 1 : Nat) : Int):=by rw [qd7 (by omega) (by omega)];omega
 have htk1 : to.take (j + 1) = to.take j ++ [y]:=by rw [zx,hy];rfl
 have hfs:=yb4 (F:=F) (to.take j) y
 rw [← htk1] at hfs
 cases hfy : fAt F y with
 | true =>
  rw [hfy,if_pos rfl,zm] at hfs
  have hlss : lsF F ls to (j + 1) = lsF F ls to j:=by
   rcases hll with e | e
   · subst e;rw [vv2,vv2]
   · obtain ⟨l,hl⟩ : ∃ l,ls[j]? = some l:=⟨ls[j]'(by omega),by simp⟩
     rw [xn5 hl hy,hfy,if_pos rfl,zm]
  unfold fAt at hfy
  rw [hfy] at hgf
  repeat' (first|(with_reducible apply zz1)|((with_reducible apply zz2);rfl;intro K' hK';simp only [WD,simprocAttr,zb,hyg,hj0,hj1,hy0,hy1,hgf,hw2,za];(repeat (constructor;focus (clear hK';intros;simp_all;done)));(try (apply hK';clear hK' K')))|((with_reducible apply zz3);rfl;all_goals (intro h;try exact absurd h (by decide))))
  refine ⟨(j + 1,to',ord'),⟨(by show j + 1 ≤ to.length;omega),(by rw [hfs];exact hq)⟩,(by show to.length - (j + 1) < to.length - j;omega),by simp only [hlss];refine qa3 h0 ?_ ?_ ?_ <;> simp only [US,WD,simprocAttr]⟩
 | false =>
 rw [hfy,if_neg (by decide)] at hfs
 have hlss : lsF F ls to (j + 1) = lsF F ls to j ++ (if ls = [] then [] else [ls.getD j noB]):=by
  rcases hll with e | e
  · subst e;rw [vv2,vv2,if_pos rfl];rfl
  · obtain ⟨l,hl⟩ : ∃ l,ls[j]? = some l:=⟨ls[j]'(by omega),by simp⟩
    have hne : ls ≠ []:=fun e=>by rw [e] at hl;simp at hl
    rw [xn5 hl hy,hfy,if_neg (by decide),if_neg hne]
    simp [ze,hl]
 have hfy2:=hfy
 unfold fAt at hfy
 rw [hfy] at hgf
 have htk:=vl7 cl y ((to.take j).filter fun t => !fAt F t) ord
 rw [← hfs,hq,hdc] at htk
 simp only at htk
 have hko:=qu6 y (ord'.map (cOf cl))
 have hfind:=vn5 y (ord'.map (cOf cl)) 0
 have hn3 : (to'.length + 1) * 8 ≤ 140737488355328:=by omega
 have hn4 : to'.length + 1 ≤ maxLen:=by unfold maxLen;omega
 have hlsn : (lsF F ls to j).length ≤ 12:=by
  unfold lsF
  rw [za]
  refine Nat.le_trans (zc1 _ _) ?_
  simp
  omega
 have hn7 : ((lsF F ls to j).length + 1) * 16 ≤ 140737488355328:=by omega
 have hn8 : (lsF F ls to j).length + 1 ≤ maxLen:=by unfold maxLen;omega
 cases hix : ixI y (ord'.map (cOf cl)) 0 with
 | some p =>
  rw [hix] at hfind
  simp only [Option.map_some] at hfind
  have hadd : vd6 cl ord' y = ord':=by unfold vd6;rw [hdc,hix]
  have hpl : plI y (ord'.map (cOf cl)) = (p : Int):=by unfold plI;rw [hix];rfl
  rw [hadd,hpl] at htk
  have hm : to'.map iD ++ [iD (p : Int)] = (to' ++ [(p : Int)]).map iD:=by simp
  by_cases hl0 : ls = []
  · have g0 : ¬ (0 : Int) < (ls.length : Int):=by rw [hl0];decide
    rw [if_pos hl0,zm] at hlss
    repeat' (first|(with_reducible apply zz1)|((with_reducible apply zz2);rfl;intro K' hK';simp only [WD,simprocAttr,zb,hyg,hj0,hj1,hy0,hy1,hgf,hko,hfind,hn3,hn4,hm,za,zn,zo,g0,hw2];(repeat (constructor;focus (clear hK';intros;simp_all;done)));(try (apply hK';clear hK' K')))|((with_reducible apply zz3);rfl;all_goals (intro h;try exact absurd h (by decide))))
    refine ⟨(j + 1,to' ++ [(p : Int)],ord'),⟨(by show j + 1 ≤ to.length;omega),htk⟩,(by show to.length - (j + 1) < to.length - j;omega),by simp only [hlss];refine qa3 h0 ?_ ?_ ?_ <;> simp only [US,WD,simprocAttr]⟩
  · have hle : ls.length = to.length:=hll.elim (fun e=>absurd e hl0) id
    have g0 : (0 : Int) < (ls.length : Int):=by omega
    have g3 : (j : Int) < (ls.length : Int):=by omega
    have hlg : (ls.map sD).getD j default = sD (ls.getD j noB):=by simp [ze,show j < ls.length by omega]
    rw [if_neg hl0] at hlss
    have hm5 : (lsF F ls to j).map sD ++ [sD (ls.getD j noB)] = (lsF F ls to (j + 1)).map sD:=by rw [hlss];simp
    repeat' (first|(with_reducible apply zz1)|((with_reducible apply zz2);rfl;intro K' hK';simp only [WD,simprocAttr,zb,hyg,hj0,hj1,hy0,hy1,hgf,hko,hfind,hn3,hn4,hm,za,zn,zo,g0];(repeat (constructor;focus (clear hK';intros;simp_all;done)));(try (apply hK';clear hK' K')))|((with_reducible apply zz3);rfl;all_goals (intro h;try exact absurd h (by decide))))
    -- TRACE
    (with_reducible refine qa6 ?_ ?_ ?_ (⟨⟨[],[]⟩,[],[],[],[]⟩) _ rfl (fun K' hK' gops fin hgops hfin=>?_)
     · kernel_rfl
     · rfl
     · rfl
     repeat' first
      | (refine qa9 rfl trivial (by simp only [WD,simprocAttr,UX,UA];rfl) (by simp only [zf,zh];rfl) (by simp only [zn2];rfl) ?_)
      | (refine qa8 rfl rfl trivial (by simp only [WD,simprocAttr,UX,UA,hlg,hj0,g3,hn7,hn8,hm5,zb,za ];rfl) ?_ (by simp only [WD,simprocAttr,UX,UA];rfl) (by simp only [WD,simprocAttr,UX,UA];rfl) (by simp only [zf,zh];rfl) (by simp only [zn2];rfl) ?_;focus (first | trivial | ((repeat' constructor) <;> first | trivial | assumption | (clear hK' hfin hgops;intros;simp_all;done))))
     (refine qb5 (by subst hfin;kernel_rfl) ?_)
     clear hfin hgops fin gops
     (try (apply hK';clear hK' K')))
    repeat' (first|(with_reducible apply zz1)|((with_reducible apply zz2);rfl;intro K' hK';simp only [WD,simprocAttr,hw2];(repeat (constructor;focus (clear hK';intros;simp_all;done)));(try (apply hK';clear hK' K')))|((with_reducible apply zz3);rfl;all_goals (intro h;try exact absurd h (by decide))))
    refine ⟨(j + 1,to' ++ [(p : Int)],ord'),⟨(by show j + 1 ≤ to.length;omega),htk⟩,(by show to.length - (j + 1) < to.length - j;omega),by refine qa3 h0 ?_ ?_ ?_ <;> simp only [US,WD,simprocAttr]⟩
 | none =>
  rw [hix] at hfind
  simp only [Option.map_none] at hfind
  have hset:=yi7 y (ord'.map (cOf cl)) 0 0 hix
  rw [Nat.zero_add,za] at hset
  have hadd : vd6 cl ord' y = ord' ++ [y]:=by unfold vd6;rw [hdc,hix]
  have hmc : ord'.map (cOf cl) ++ [y] = (ord' ++ [y]).map (cOf cl):=by rw [zy,zb1,zi,hdc]
  have hix2:=qt3 hix
  rw [Nat.zero_add,za,hmc] at hix2
  rw [hmc] at hset
  have hfind2:=vn5 y ((ord' ++ [y]).map (cOf cl)) 0
  rw [hix2] at hfind2
  simp only [Option.map_some] at hfind2
  have hko2:=qu6 y ((ord' ++ [y]).map (cOf cl))
  have hpl : plI y ((ord' ++ [y]).map (cOf cl)) = (ord'.length : Int):=by unfold plI;rw [hix2];rfl
  rw [hadd,hpl] at htk
  have hm : to'.map iD ++ [iD (ord'.length : Int)] = (to' ++ [(ord'.length : Int)]).map iD:=by simp
  have hm2 : ord'.map iD ++ [iD y] = (ord' ++ [y]).map iD:=by simp
  have hn5 : (ord'.length + 1) * 8 ≤ 140737488355328:=by omega
  have hn6 : ord'.length + 1 ≤ maxLen:=by unfold maxLen;omega
  by_cases hl0 : ls = []
  · have g0 : ¬ (0 : Int) < (ls.length : Int):=by rw [hl0];decide
    rw [if_pos hl0,zm] at hlss
    repeat' (first|(with_reducible apply zz1)|((with_reducible apply zz2);rfl;intro K' hK';simp only [WD,simprocAttr,zb,hyg,hj0,hj1,hy0,hy1,hgf,hko,hfind,hko2,hfind2,hset,hn3,hn4,hn5,hn6,hm,hm2,za,zn,zo,g0,hw2];(repeat (constructor;focus (clear hK';intros;simp_all;done)));(try (apply hK';clear hK' K')))|((with_reducible apply zz3);rfl;all_goals (intro h;try exact absurd h (by decide))))
    refine ⟨(j + 1,to' ++ [(ord'.length : Int)],ord' ++ [y]),⟨(by show j + 1 ≤ to.length;omega),htk⟩,(by show to.length - (j + 1) < to.length - j;omega),by simp only [hlss];refine qa3 h0 ?_ ?_ ?_ <;> simp only [US,WD,simprocAttr]⟩
  · have hle : ls.length = to.length:=hll.elim (fun e=>absurd e hl0) id
    have g0 : (0 : Int) < (ls.length : Int):=by omega
    have g3 : (j : Int) < (ls.length : Int):=by omega
    have hlg : (ls.map sD).getD j default = sD (ls.getD j noB):=by simp [ze,show j < ls.length by omega]
    rw [if_neg hl0] at hlss
    have hm5 : (lsF F ls to j).map sD ++ [sD (ls.getD j noB)] = (lsF F ls to (j + 1)).map sD:=by rw [hlss];simp
    repeat' (first|(with_reducible apply zz1)|((with_reducible apply zz2);rfl;intro K' hK';simp only [WD,simprocAttr,zb,hyg,hj0,hj1,hy0,hy1,hgf,hko,hfind,hko2,hfind2,hset,hn3,hn4,hn5,hn6,hm,hm2,za,zn,zo,g0];(repeat (constructor;focus (clear hK';intros;simp_all;done)));(try (apply hK';clear hK' K')))|((with_reducible apply zz3);rfl;all_goals (intro h;try exact absurd h (by decide))))
    -- TRACE
    (with_reducible refine qa6 ?_ ?_ ?_ (⟨⟨[],[]⟩,[],[],[],[]⟩) _ rfl (fun K' hK' gops fin hgops hfin=>?_)
     · kernel_rfl
     · rfl
     · rfl
     repeat' first
      | (refine qa9 rfl trivial (by simp only [WD,simprocAttr,UX,UA];rfl) (by simp only [zf,zh];rfl) (by simp only [zn2];rfl) ?_)
      | (refine qa8 rfl rfl trivial (by simp only [WD,simprocAttr,UX,UA,hlg,hj0,g3,hn7,hn8,hm5,zb,za ];rfl) ?_ (by simp only [WD,simprocAttr,UX,UA];rfl) (by simp only [WD,simprocAttr,UX,UA];rfl) (by simp only [zf,zh];rfl) (by simp only [zn2];rfl) ?_;focus (first | trivial | ((repeat' constructor) <;> first | trivial | assumption | (clear hK' hfin hgops;intros;simp_all;done))))
     (refine qb5 (by subst hfin;kernel_rfl) ?_)
     clear hfin hgops fin gops
     (try (apply hK';clear hK' K')))
    repeat' (first|(with_reducible apply zz1)|((with_reducible apply zz2);rfl;intro K' hK';simp only [WD,simprocAttr,hw2];(repeat (constructor;focus (clear hK';intros;simp_all;done)));(try (apply hK';clear hK' K')))|((with_reducible apply zz3);rfl;all_goals (intro h;try exact absurd h (by decide))))
    refine ⟨(j + 1,to' ++ [(ord'.length : Int)],ord' ++ [y]),⟨(by show j + 1 ≤ to.length;omega),htk⟩,(by show to.length - (j + 1) < to.length - j;omega),by refine qa3 h0 ?_ ?_ ?_ <;> simp only [US,WD,simprocAttr]⟩
end Go.Proofs.YtgecnlcbdbaneaaDoor
