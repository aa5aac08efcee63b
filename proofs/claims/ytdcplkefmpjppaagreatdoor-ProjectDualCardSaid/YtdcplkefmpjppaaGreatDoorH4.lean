/- graph.least; a symbolic walk. -/
import Derived.Test.YtdcplkefmpjppaaGreatDoorHP
import Derived.Test.YtdcplkefmpjppaaGreatDoorH3
-- TYPESA
set_option linter.unusedVariables false
set_option linter.unusedSimpArgs false
namespace Go.Proofs.YtdcplkefmpjppaaGreatDoor
open Go.RowKit Go.Sw
open Nat renaming reduceAdd → zn2
open Go.Sw renaming swp_seq → zw0, kseq_n → zw6, swp_region → zw17

set_option maxHeartbeats 8000000 in
set_option maxRecDepth 100000 in
theorem least_fn (Γ : Gl) (g : List Nd) (hg : g.length ≤ 250) (hg0 : 0 < g.length) (hn : ∀ x ∈ g,NdOK g.length x) (hcl : (partedP g).length = g.length) (hp : DFn Tryz.prog Γ 118 [.slc (g.map Nd.d)] (.slc ((partedP g).map iD))) :
 DFn Tryz.prog Γ 71 [.slc (g.map Nd.d)] (.slc ((leastP g).map Nd.d)):=by
 obtain ⟨R,hR⟩ : ∃ R,leastP g = R:=⟨_,rfl⟩
 rw [hR]
 unfold leastP at hR
 generalize partedP g = cl at hp hcl hR
 obtain ⟨c0,hc0⟩ : ∃ c0,cl[0]? = some c0:=⟨cl[0]'(by omega),by simp⟩
 have hc0g : (cl.map iD).getD 0 default = iD c0:=by simp [List.getD,hc0]
 have hc0c : cOf cl 0 = c0:=by simp [cOf,List.getD,hc0]
 have hlt0 : (0 : Int) < (cl.length : Int):=by omega
 have hko0:=keyOK_mI c0 []
 have hset0 : setM (.int .i64 c0) (.int .i64 0) [] = mI 0 [c0]:=rfl
 rw [show mI 0 [] = [] from rfl] at hko0
 refine fn_of_swp (N:=89) Tryz.func71 rfl (by decide) rfl rfl (by simp) (fun C h0=>?_)
 simp only [argE]
 repeat' (first|(with_reducible apply zz1)|((with_reducible apply zz2);rfl;intro K' hK';simp only [WA,simprocAttr];(repeat (constructor;focus (clear hK';intros;simp_all;done)));(try (apply hK';clear hK' K')))|((with_reducible apply zz3);rfl;all_goals (intro h;try exact absurd h (by decide))))
 refine stop_call h0 rfl (by simp only [WA,simprocAttr]) rfl (by simp only [keepS,Option.isSome_some,WA,simprocAttr]) (hp) ?_
 simp only [WA,simprocAttr,inX,dropS, ]
 (repeat (constructor;focus (clear hK';intros;simp_all;done)))
 (try (apply hK';clear hK' K'))
 refine zw6 ?_
 refine zw0 ?_
 (with_reducible refine zw17 ?_ (fun K' hK'=>?_)
  · rfl
  simp only [WA,simprocAttr,hlt0,hc0g,hko0,hset0,List.length_map,Int.toNat_zero,Int.reduceToNat]
  (repeat (constructor;focus (clear hK';intros;simp_all;done))))
 refine hK' _ _ ?_
 clear hK' K'
 refine zw6 ?_
 refine zw0 ?_
 (with_reducible refine zw17 ?_ (fun K' hK'=>?_)
  · rfl
  simp only [WA,simprocAttr]
  (repeat (constructor;focus (clear hK';intros;simp_all;done))))
 refine hK' _ _ ?_
 clear hK' K'
 refine zw6 ?_
 refine zw0 ?_
 (with_reducible refine zw17 ?_ (fun K' hK'=>?_)
  · rfl
  simp only [WA,simprocAttr]
  (repeat (constructor;focus (clear hK';intros;simp_all;done))))
 refine hK' _ _ ?_
 clear hK' K'
 refine zw6 ?_
 refine swp_nil 6 2 4 rfl rfl (by decide) ?_
 simp only [WA,simprocAttr]
 repeat' (first|(with_reducible apply zz1)|((with_reducible apply zz2);rfl;intro K' hK';simp only [WA,simprocAttr];(repeat (constructor;focus (clear hK';intros;simp_all;done)));(try (apply hK';clear hK' K')))|((with_reducible apply zz3);rfl;all_goals (intro h;try exact absurd h (by decide))))
 refine swp_loop (α := Nat × List Int × List Nd) (fun q=>[(0,.d (.slc (g.map Nd.d))),(3,.d (.slc (cl.map iD))),(4,.mp 0),(5,.own 1),(6,.own 2),(7,.d (iD q.1))]) (fun q=>[(0,.mp (mI 0 (q.2.1.map (cOf cl)))),(1,.row 1 (q.2.1.map iD)),(2,.row 4 (q.2.2.map Nd.d))])
  (fun q=>q.1 ≤ q.2.1.length ∧ OrdI cl g.length q.2.1 ∧ q.2.2.length = q.1 ∧ ∃ f,g.length + 1 - q.1 ≤ f ∧ lstF g cl f q.1 q.2.1 q.2.2 = R) (fun q=>g.length + 1 - q.1)
  (0,[0],[]) ⟨by simp,⟨by simp;omega,by simp⟩,rfl,_,Nat.le_refl _,hR⟩ (by refine sub_of h0 ?_ ?_ ?_ <;> simp only [US,WA,simprocAttr,hc0c,List.map_cons,List.map_nil]) (fun q hq=>?_)
 obtain ⟨at',ord,out⟩:=q
 obtain ⟨hat,hord,hout,f,hf,hR⟩:=hq
 simp only at hat hord hout hf hR
 have hol:=hord.len
 have ha0 : (0 : Int) ≤ (at' : Int):=by omega
 by_cases hlt : at' < ord.length
 · obtain ⟨v,hv⟩ : ∃ v,ord[at']? = some v:=⟨ord[at'],by simp [hlt]⟩
   have hvr:=hord.r v (List.mem_of_getElem? hv)
   have hvg : (ord.map iD).getD at' default = iD v:=by simp [List.getD,hv]
   obtain ⟨x,hx⟩ : ∃ x,g[v.toNat]? = some x:=⟨g[v.toNat]'(by omega),by simp⟩
   have hget : (g.map Nd.d).getD v.toNat default = x.d:=by simp [List.getD,hx]
   obtain ⟨⟨hk0,hk1⟩,⟨hs0,hs1⟩,hls,hlb,hto,hr⟩:=hn x (List.mem_of_getElem? hx)
   obtain ⟨f,rfl⟩ : ∃ f',f = f' + 1:=⟨f - 1,by omega⟩
   unfold lstF at hR
   simp only [hv,hx] at hR
   obtain ⟨k,so,ls,to⟩:=x
   simp only [Nd.d] at hget
   simp only at hk0 hk1 hs0 hs1 hls hlb hto hr hR
   have hcS:=cloneS_d Γ ls (by omega)
   have ha1 : (at' : Int) < (ord.length : Int):=by omega
   have hv0 : (0 : Int) ≤ v:=hvr.1
   have hv1 : v < (g.length : Int):=hvr.2
   have hw1 : IntKind.i64.wrap ((at' : Int) + 1) = ((at' + 1 : Nat) : Int):=by rw [wrap_in (by omega) (by omega)];omega
   have hnout : (out.length + 1) * 64 ≤ 140737488355328:=by omega
   have hnout2 : out.length + 1 ≤ maxLen:=by unfold maxLen;omega
   repeat' (first|(with_reducible apply zz1)|((with_reducible apply zz2);rfl;intro K' hK';simp only [WA,simprocAttr,Int.toNat_natCast,hvg,hget,ha0,ha1,hv0,hv1,List.length_map];(repeat (constructor;focus (clear hK';intros;simp_all;done)));(try (apply hK';clear hK' K')))|((with_reducible apply zz3);rfl;all_goals (intro h;try exact absurd h (by decide))))
   (with_reducible refine swp_drawX ?_ ?_ ?_ (⟨⟨[(6,.slc (ls.map sD))],[]⟩,[],[],[],[]⟩) _ rfl (fun K' hK' gops fin hgops hfin=>?_)
    · kernel_rfl
    · rfl
    · rfl
    repeat' first
     | (refine vcX_dead rfl trivial (by simp only [WA,simprocAttr,UX,UA];rfl) (by simp only [List.nil_append,List.cons_append];rfl) (by simp only [zn2];rfl) ?_)
     | (refine vcX_step rfl rfl trivial (by simp only [WA,simprocAttr,UX,UA,hcS,List.length_map ];rfl) ?_ (by simp only [WA,simprocAttr,UX,UA];rfl) (by simp only [WA,simprocAttr,UX,UA];rfl) (by simp only [List.nil_append,List.cons_append];rfl) (by simp only [zn2];rfl) ?_;focus (first | trivial | ((repeat' apply And.intro) <;> first | trivial | assumption | (clear hK' hfin hgops;intros;simp_all;done))))
    (refine vcX_nil (by subst hfin;kernel_rfl) ?_)
    clear hfin hgops fin gops
    (try (apply hK';clear hK' K')))
   refine zw6 ?_
   refine swp_nilB 12 3 13 1 rfl rfl rfl (by decide) ?_
   simp only [WA,simprocAttr]
   repeat' (first|(with_reducible apply zz1)|((with_reducible apply zz2);rfl;intro K' hK';simp only [WA,simprocAttr,List.length_map];(repeat (constructor;focus (clear hK';intros;simp_all;done)));(try (apply hK';clear hK' K')))|((with_reducible apply zz3);rfl;all_goals (intro h;try exact absurd h (by decide))))
   refine swp_loop (α := Nat × List Int × List Int) (fun q=>[(0,.d (.slc (g.map Nd.d))),(3,.d (.slc (cl.map iD))),(4,.mp 0),(5,.own 1),(6,.own 2),(7,.d (iD at')),(9,.ref 12 0),(44,.d (.slc (to.map iD))),(45,.d (iD to.length)),(46,.d (iD q.1))])
    (fun q=>[(0,.mp (mI 0 (q.2.2.map (cOf cl)))),(1,.row 1 (q.2.2.map iD)),(2,.row 4 (out.map Nd.d)),(12,.cells [.d (iD k),.d (iD so),.d (.slc (ls.map sD)),.own 13]),(13,.row 1 (q.2.1.map iD))])
    (fun q=>q.1 ≤ to.length ∧ rowO cl (to.take q.1) ord = q.2) (fun q=>to.length - q.1) (0,[],ord) ⟨Nat.zero_le _,rfl⟩ (by refine sub_of h0 ?_ ?_ ?_ <;> simp only [US,WA,simprocAttr,List.map_nil]) (fun q hq=>?_)
   obtain ⟨j,to',ord'⟩:=q
   obtain ⟨hj,hq⟩:=hq
   simp only at hj hq
   have hj0 : (0 : Int) ≤ (j : Int):=by omega
   have hord' : OrdI cl g.length ord':=by
    have:=OrdI.row (to:=to.take j) hord (fun k hk=>hr k (List.mem_of_mem_take hk))
    rw [hq] at this
    exact this
   have hol':=hord'.len
   have hto' : to'.length = j:=by
    have:=rowO_len cl (to.take j) ord
    rw [hq] at this
    simp only [List.length_take] at this
    omega
   by_cases hjl : j < to.length
   · obtain ⟨y,hy⟩ : ∃ y,to[j]? = some y:=⟨to[j],by simp [hjl]⟩
     have hyr:=hr y (List.mem_of_getElem? hy)
     have hyg : (to.map iD).getD j default = iD y:=by simp [List.getD,hy]
     obtain ⟨d,hd⟩ : ∃ d,cl[y.toNat]? = some d:=⟨cl[y.toNat]'(by omega),by simp⟩
     have hdg : (cl.map iD).getD y.toNat default = iD d:=by simp [List.getD,hd]
     have hdc : cOf cl y = d:=by simp [cOf,List.getD,hd]
     have hy0 : (0 : Int) ≤ y:=hyr.1
     have hy1 : y < (cl.length : Int):=by omega
     have hj1 : (j : Int) < (to.length : Int):=by omega
     have hw2 : IntKind.i64.wrap ((j : Int) + 1) = ((j + 1 : Nat) : Int):=by rw [wrap_in (by omega) (by omega)];omega
     have htk:=rowO_snoc cl y (to.take j) ord
     rw [show to.take j ++ [y] = to.take (j + 1) by rw [List.take_add_one,hy];rfl,hq,hdc] at htk
     simp only at htk
     have hko:=keyOK_mI d (ord'.map (cOf cl))
     have hfind:=find_mI d (ord'.map (cOf cl)) 0
     have hn3 : (to'.length + 1) * 8 ≤ 140737488355328:=by omega
     have hn4 : to'.length + 1 ≤ maxLen:=by unfold maxLen;omega
     cases hix : ixI d (ord'.map (cOf cl)) 0 with
     | some p =>
      rw [hix] at hfind
      simp only [Option.map_some] at hfind
      have hadd : addO cl ord' y = ord':=by unfold addO;rw [hdc,hix]
      have hpl : plI d (ord'.map (cOf cl)) = (p : Int):=by unfold plI;rw [hix];rfl
      rw [hadd,hpl] at htk
      have hm : to'.map iD ++ [iD (p : Int)] = (to' ++ [(p : Int)]).map iD:=by simp
      repeat' (first|(with_reducible apply zz1)|((with_reducible apply zz2);rfl;intro K' hK';simp only [WA,simprocAttr,Int.toNat_natCast,hyg,hj0,hj1,hy0,hy1,hdg,hko,hfind,List.length_map];(repeat (constructor;focus (clear hK';intros;simp_all;done)));(try (apply hK';clear hK' K')))|((with_reducible apply zz3);rfl;all_goals (intro h;try exact absurd h (by decide))))
      (with_reducible refine swp_drawX ?_ ?_ ?_ (⟨⟨[],[]⟩,[],[],[],[]⟩) _ rfl (fun K' hK' gops fin hgops hfin=>?_)
       · kernel_rfl
       · rfl
       · rfl
       repeat' first
        | (refine vcX_dead rfl trivial (by simp only [WA,simprocAttr,UX,UA];rfl) (by simp only [List.nil_append,List.cons_append];rfl) (by simp only [zn2];rfl) ?_)
        | (refine vcX_step rfl rfl trivial (by simp only [WA,simprocAttr,UX,UA,hy0,hy1,hdg,hko,hfind,hn3,hn4,hm,List.length_map ];rfl) ?_ (by simp only [WA,simprocAttr,UX,UA];rfl) (by simp only [WA,simprocAttr,UX,UA];rfl) (by simp only [List.nil_append,List.cons_append];rfl) (by simp only [zn2];rfl) ?_;focus (first | trivial | ((repeat' apply And.intro) <;> first | trivial | assumption | (clear hK' hfin hgops;intros;simp_all;done))))
       (refine vcX_nil (by subst hfin;kernel_rfl) ?_)
       clear hfin hgops fin gops
       (try (apply hK';clear hK' K')))
      repeat' (first|(with_reducible apply zz1)|((with_reducible apply zz2);rfl;intro K' hK';simp only [WA,simprocAttr,hw2];(repeat (constructor;focus (clear hK';intros;simp_all;done)));(try (apply hK';clear hK' K')))|((with_reducible apply zz3);rfl;all_goals (intro h;try exact absurd h (by decide))))
      refine ⟨(j + 1,to' ++ [(p : Int)],ord'),⟨(by show j + 1 ≤ to.length;omega),htk⟩,(by show to.length - (j + 1) < to.length - j;omega),by refine sub_of h0 ?_ ?_ ?_ <;> simp only [US,WA,simprocAttr]⟩
     | none =>
      rw [hix] at hfind
      simp only [Option.map_none] at hfind
      have hset:=set_mI d (ord'.map (cOf cl)) 0 0 hix
      rw [Nat.zero_add,List.length_map] at hset
      have hadd : addO cl ord' y = ord' ++ [y]:=by unfold addO;rw [hdc,hix]
      have hmc : ord'.map (cOf cl) ++ [d] = (ord' ++ [y]).map (cOf cl):=by rw [List.map_append,List.map_cons,List.map_nil,hdc]
      have hix2:=ixI_none_app hix
      rw [Nat.zero_add,List.length_map,hmc] at hix2
      rw [hmc] at hset
      have hfind2:=find_mI d ((ord' ++ [y]).map (cOf cl)) 0
      rw [hix2] at hfind2
      simp only [Option.map_some] at hfind2
      have hko2:=keyOK_mI d ((ord' ++ [y]).map (cOf cl))
      have hpl : plI d ((ord' ++ [y]).map (cOf cl)) = (ord'.length : Int):=by unfold plI;rw [hix2];rfl
      rw [hadd,hpl] at htk
      have hm : to'.map iD ++ [iD (ord'.length : Int)] = (to' ++ [(ord'.length : Int)]).map iD:=by simp
      have hm2 : ord'.map iD ++ [iD y] = (ord' ++ [y]).map iD:=by simp
      have hn5 : (ord'.length + 1) * 8 ≤ 140737488355328:=by omega
      have hn6 : ord'.length + 1 ≤ maxLen:=by unfold maxLen;omega
      repeat' (first|(with_reducible apply zz1)|((with_reducible apply zz2);rfl;intro K' hK';simp only [WA,simprocAttr,Int.toNat_natCast,hyg,hj0,hj1,hy0,hy1,hdg,hko,hfind,hset,hn5,hn6,hm2,List.length_map];(repeat (constructor;focus (clear hK';intros;simp_all;done)));(try (apply hK';clear hK' K')))|((with_reducible apply zz3);rfl;all_goals (intro h;try exact absurd h (by decide))))
      (with_reducible refine swp_drawX ?_ ?_ ?_ (⟨⟨[],[]⟩,[],[],[],[]⟩) _ rfl (fun K' hK' gops fin hgops hfin=>?_)
       · kernel_rfl
       · rfl
       · rfl
       repeat' first
        | (refine vcX_dead rfl trivial (by simp only [WA,simprocAttr,UX,UA];rfl) (by simp only [List.nil_append,List.cons_append];rfl) (by simp only [zn2];rfl) ?_)
        | (refine vcX_step rfl rfl trivial (by simp only [WA,simprocAttr,UX,UA,hy0,hy1,hdg,hko2,hfind2,hn3,hn4,hm,List.length_map ];rfl) ?_ (by simp only [WA,simprocAttr,UX,UA];rfl) (by simp only [WA,simprocAttr,UX,UA];rfl) (by simp only [List.nil_append,List.cons_append];rfl) (by simp only [zn2];rfl) ?_;focus (first | trivial | ((repeat' apply And.intro) <;> first | trivial | assumption | (clear hK' hfin hgops;intros;simp_all;done))))
       (refine vcX_nil (by subst hfin;kernel_rfl) ?_)
       clear hfin hgops fin gops
       (try (apply hK';clear hK' K')))
      repeat' (first|(with_reducible apply zz1)|((with_reducible apply zz2);rfl;intro K' hK';simp only [WA,simprocAttr,hw2];(repeat (constructor;focus (clear hK';intros;simp_all;done)));(try (apply hK';clear hK' K')))|((with_reducible apply zz3);rfl;all_goals (intro h;try exact absurd h (by decide))))
      refine ⟨(j + 1,to' ++ [(ord'.length : Int)],ord' ++ [y]),⟨(by show j + 1 ≤ to.length;omega),htk⟩,(by show to.length - (j + 1) < to.length - j;omega),by refine sub_of h0 ?_ ?_ ?_ <;> simp only [US,WA,simprocAttr]⟩
   · have hj1 : ¬ (j : Int) < (to.length : Int):=by omega
     rw [List.take_of_length_le (by omega)] at hq
     rw [hq] at hR
     simp only at hR
     have hm : out.map Nd.d ++ [.agg [iD k,iD so,.slc (ls.map sD),.slc (to'.map iD)]] = (out ++ [(⟨k,so,ls,to'⟩ : Nd)]).map Nd.d:=by simp [Nd.d]
     have hsub:=rowO_sub cl to ord
     rw [hq] at hsub
     simp only at hsub
     refine swp_frz [13] h0 (by simp only [Option.isSome_some,UF,WA,simprocAttr]) ?_
     simp only [WA,simprocAttr,UF]
     repeat' (first|(with_reducible apply zz1)|((with_reducible apply zz2);rfl;intro K' hK';simp only [WA,simprocAttr,hj1,hnout,hnout2,hm,hw1,List.length_map];(repeat (constructor;focus (clear hK';intros;simp_all;done)));(try (apply hK';clear hK' K')))|((with_reducible apply zz3);rfl;all_goals (intro h;try exact absurd h (by decide))))
     refine ⟨(at' + 1,ord',out ++ [⟨k,so,ls,to'⟩]),⟨(by show at' + 1 ≤ ord'.length;omega),hord',(by simp [hout]),f,(by show g.length + 1 - (at' + 1) ≤ f;omega),hR⟩,(by show g.length + 1 - (at' + 1) < g.length + 1 - at';omega),by refine sub_of h0 ?_ ?_ ?_ <;> simp only [US,WA,simprocAttr]⟩
 · have ha1 : ¬ (at' : Int) < (ord.length : Int):=by omega
   have : R = out:=by
    rw [← hR]
    cases f with
    | zero=>rfl
    | succ f =>
     unfold lstF
     rw [List.getElem?_eq_none (by omega)]
   rw [this]
   repeat' (first|(with_reducible apply zz1)|((with_reducible apply zz2);rfl;intro K' hK';simp only [WA,simprocAttr,ha1,List.length_map];(repeat (constructor;focus (clear hK';intros;simp_all;done)));(try (apply hK';clear hK' K')))|((with_reducible apply zz3);rfl;all_goals (intro h;try exact absurd h (by decide))))
   simp only [Kret,retL,retOne,oneV,WA,simprocAttr]
end Go.Proofs.YtdcplkefmpjppaaGreatDoor
/- graph.Of; a symbolic walk. -/
-- TYPESA
namespace Go.Proofs.YtdcplkefmpjppaaGreatDoor
open Go.RowKit Go.Sw

def rawP (x : Tp) : List Nd:=(addT x [] [] []).2
def ofP (x : Tp) : List Nd:=if tCheck x = 0 then leastP (rawP x) else []
set_option maxHeartbeats 8000000 in
set_option maxRecDepth 100000 in
theorem of_fn0 (Γ : Gl) (x : Tp) (hadd : tCheck x = 0 → AddS Γ x ∧ clT x [] ∧ x.size ≤ 60) (hls : tCheck x = 0 → DFn Tryz.prog Γ 71 [.slc ((rawP x).map Nd.d)] (.slc ((leastP (rawP x)).map Nd.d))) :
 DFn Tryz.prog Γ 41 [x.d] (.tup [.slc ((ofP x).map Nd.d),iD (tCheck x)]):=by
 have hck:=TCheck_fn Γ x
 unfold ofP
 by_cases hc : tCheck x = 0
 · rw [if_pos hc]
   obtain ⟨h1,h2,h3⟩:=hadd hc
   have hl:=hls hc
   have ha : SFn Tryz.prog Γ 70 [.ref 1 0,.d x.d,.d (.slc []),.d (.slc [])] [(1,.cells [.own 2]),(2,.row 4 [])] (.d (iD (addT x [] [] []).1)) [(1,.cells [.own 2]),(2,.row 4 ((addT x [] [] []).2.map Nd.d))]:=(h1 [] [] [] rfl (by simp;omega) (by simp;omega) h2).up 1
   unfold rawP at hl ⊢
   generalize addT x [] [] [] = A at ha hl
   obtain ⟨n,G⟩:=A
   simp only at ha hl ⊢
   rw [hc] at hck ⊢
   generalize leastP G = R at hl ⊢
   obtain ⟨k,so,nm,ls,l⟩:=x
   simp only [Tp.d] at hck ha ⊢
   clear h1 h2 h3 hadd hls hc
   refine fn_of_swp (N:=21) Tryz.func41 rfl (by decide) rfl rfl (by simp) (fun C h0=>?_)
   simp only [argE]
   repeat' (first|(with_reducible apply zz1)|((with_reducible apply zz2);rfl;intro K' hK';simp only [WA,simprocAttr];(repeat (constructor;focus (clear hK';intros;simp_all;done)));(try (apply hK';clear hK' K')))|((with_reducible apply zz3);rfl;all_goals (intro h;try exact absurd h (by decide))))
   refine stop_callF rfl (by simp only [WA,simprocAttr]) rfl rfl (hck) ?_
   simp only [WA,simprocAttr,inX,dropS, ]
   (repeat (constructor;focus (clear hK';intros;simp_all;done)))
   (try (apply hK';clear hK' K'))
   repeat' (first|(with_reducible apply zz1)|((with_reducible apply zz2);rfl;intro K' hK';simp only [WA,simprocAttr];(repeat (constructor;focus (clear hK';intros;simp_all;done)));(try (apply hK';clear hK' K')))|((with_reducible apply zz3);rfl;all_goals (intro h;try exact absurd h (by decide))))
   refine stop_sub (sub_nilB 1 0 2 4 rfl rfl rfl (by decide)) ?_
   simp only [WA,simprocAttr]
   refine stop_cS rfl (by simp only [UA,WA,simprocAttr]) (ha) ?_
   simp only [WA,simprocAttr,UM, ]
   (try (apply hK';clear hK' K'))
   repeat' (first|(with_reducible apply zz1)|((with_reducible apply zz2);rfl;intro K' hK';simp only [WA,simprocAttr];(repeat (constructor;focus (clear hK';intros;simp_all;done)));(try (apply hK';clear hK' K')))|((with_reducible apply zz3);rfl;all_goals (intro h;try exact absurd h (by decide))))
   refine stop_frz [2] h0 (by simp only [Option.isSome_some,UF,WA,simprocAttr]) ?_
   simp only [WA,simprocAttr,UF]
   refine stop_call h0 rfl (by simp only [WA,simprocAttr]) rfl (by simp only [keepS,Option.isSome_some,WA,simprocAttr]) (hl) ?_
   simp only [WA,simprocAttr,inX,dropS, ]
   (repeat (constructor;focus (clear hK';intros;simp_all;done)))
   (try (apply hK';clear hK' K'))
   repeat' (first|(with_reducible apply zz1)|((with_reducible apply zz2);rfl;intro K' hK';simp only [WA,simprocAttr];(repeat (constructor;focus (clear hK';intros;simp_all;done)));(try (apply hK';clear hK' K')))|((with_reducible apply zz3);rfl;all_goals (intro h;try exact absurd h (by decide))))
   simp only [Kret,retL,retOne,oneV,WA,simprocAttr]
 · rw [if_neg hc]
   have g1 : (tCheck x != 0) = true:=by simpa using hc
   generalize tCheck x = r at hck g1 ⊢
   clear hadd hls hc
   obtain ⟨k,so,nm,ls,l⟩:=x
   simp only [Tp.d] at hck ⊢
   refine fn_of_swp (N:=21) Tryz.func41 rfl (by decide) rfl rfl (by simp) (fun C h0=>?_)
   simp only [argE]
   repeat' (first|(with_reducible apply zz1)|((with_reducible apply zz2);rfl;intro K' hK';simp only [WA,simprocAttr];(repeat (constructor;focus (clear hK';intros;simp_all;done)));(try (apply hK';clear hK' K')))|((with_reducible apply zz3);rfl;all_goals (intro h;try exact absurd h (by decide))))
   refine stop_callF rfl (by simp only [WA,simprocAttr]) rfl rfl (hck) ?_
   simp only [WA,simprocAttr,inX,dropS, ]
   (repeat (constructor;focus (clear hK';intros;simp_all;done)))
   (try (apply hK';clear hK' K'))
   repeat' (first|(with_reducible apply zz1)|((with_reducible apply zz2);rfl;intro K' hK';simp only [WA,simprocAttr,g1];(repeat (constructor;focus (clear hK';intros;simp_all;done)));(try (apply hK';clear hK' K')))|((with_reducible apply zz3);rfl;all_goals (intro h;try exact absurd h (by decide))))
   simp only [Kret,retL,retOne,oneV,WA,simprocAttr,List.map_nil]
end Go.Proofs.YtdcplkefmpjppaaGreatDoor
/- below.both's nodes and fits; a symbolic walk. -/
-- TYPESA
namespace Go.Proofs.YtdcplkefmpjppaaGreatDoor
open Go.RowKit Go.Sw

structure Pr where
 a : Int
 b : Int
 t : Bool
deriving DecidableEq
abbrev bD (t : Bool) : D:=.v (.bool t)
def Pr.d (p : Pr) : D:=.agg [iD p.a,iD p.b,bD p.t]
def n0 : Nd:=⟨0,0,[],[]⟩
def gAt (g : List Nd) (i : Int) : Nd:=g.getD i.toNat n0
def ndX (g h : List Nd) (p : Pr) : Nd:=if p.t = true then gAt h p.b else gAt g p.a
def ndY (g h : List Nd) (p : Pr) : Nd:=if p.t = true then gAt g p.a else gAt h p.b
def toP (g h : List Nd) (p : Pr) (i k : Int) (t : Bool) : Pr :=
 if p.t = true then ⟨(gAt g p.a).to.getD k.toNat 0,(gAt h p.b).to.getD i.toNat 0,p.t != t⟩ else ⟨(gAt g p.a).to.getD i.toNat 0,(gAt h p.b).to.getD k.toNat 0,p.t != t⟩
end Go.Proofs.YtdcplkefmpjppaaGreatDoor
