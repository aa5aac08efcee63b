/- The law ProjectDual; a symbolic walk. -/
-- TYPESA
import Derived.Test.YtdcplkefmpjppaaGreatDoorKJ1
import Derived.Test.YtdcplkefmpjppaaGreatDoorN1
import Derived.Test.YtdcplkefmpjppaaGreatDoorG10
set_option linter.unusedVariables false
set_option linter.unusedSimpArgs false
namespace Go.Proofs.YtdcplkefmpjppaaGreatDoor.GG
open Go.RowKit Go.Sw
open Nat renaming reduceAdd → zn2
open Go.Sw renaming swp_region → zw17

theorem dK_eq (k : Int) : dK k = dKind k:=by
 unfold dK dKind
 (repeat' split) <;> omega
mutual
theorem kLT_dl (t : ByteArray) : ∀ x : Lt,kLT (dlL t x) = dTp (kLT x)
 | .mk k wi so nm ls l=>by rw [dlL,kLT,kLT,dTp,dK_eq,kLTs_dl t l]
theorem kLTs_dl (t : ByteArray) : ∀ l : List Lt,kLTs (dlLs t l) = dTps (kLTs l)
 | []=>rfl
 | x :: l=>by rw [dlLs,kLTs,kLTs,dTps,kLT_dl t x,kLTs_dl t l]
end
theorem kLT_ok {x : Lt} (h : OkL x) : OkT (kLT x):=by
 induction h with
 | nil=>exact .nil
 | pass k so wi x hk hw h1 h3 hx ih=>exact .pass k so _ hk h1 h3 ih
 | pick k wi ls l hk hw hl hn hx ih =>
  rw [kLT]
  refine .pick k ls _ hk hl (by rw [kLTs_map,List.length_map,hn]) fun y hy=>?_
  rw [kLTs_map] at hy
  obtain ⟨z,hz,rfl⟩:=List.mem_map.1 hy
  exact ih z hz
 | bind nm x hn hx ih=>exact .bind nm _ hn ih
 | var nm hn=>exact .var nm hn
theorem NoCs_of {l : List Tp} (h : ∀ x ∈ l,NoC x) : NoCs l:=by
 induction l with
 | nil=>trivial
 | cons x l ih=>exact ⟨h x (by simp),ih fun y hy=>h y (by simp [hy])⟩
theorem kLT_noC {x : Lt} (h : OkL x) : NoC (kLT x):=by
 induction h with
 | nil=>exact ⟨by decide,trivial⟩
 | pass k so wi x hk hw h1 h3 hx ih=>exact ⟨by omega,ih,trivial⟩
 | pick k wi ls l hk hw hl hn hx ih =>
  rw [kLT,NoC]
  refine ⟨by omega,NoCs_of fun y hy=>?_⟩
  rw [kLTs_map] at hy
  obtain ⟨z,hz,rfl⟩:=List.mem_map.1 hy
  exact ih z hz
 | bind nm x hn hx ih=>exact ⟨by decide,ih,trivial⟩
 | var nm hn=>exact ⟨by decide,trivial⟩
mutual
theorem kLT_size : ∀ x : Lt,(kLT x).size = x.size
 | .mk k wi so nm ls l=>by rw [kLT,Tp.size,Lt.size,kLTs_size l]
theorem kLTs_size : ∀ l : List Lt,Tp.sizes (kLTs l) = Lt.sizes l
 | []=>rfl
 | x :: l=>by rw [kLTs,Tp.sizes,Lt.sizes,kLT_size x,kLTs_size l]
end
theorem strip_kLT {x : Lt} (h : OkL x) : stripK (kLT x) = stripLK x:=by
 induction h with
 | nil=>rfl
 | pass k so wi x hk hw h1 h3 hx ih=>rw [strip_not (by omega),kLT,stripK,if_neg (by omega)]
 | pick k wi ls l hk hw hl hn hx ih=>rw [strip_not (by omega),kLT,stripK,if_neg (by omega)]
 | bind nm x hn hx ih=>rw [strip_one, ← ih,kLT,stripK,if_pos rfl];rfl
 | var nm hn=>rfl
theorem kLT_cl {x : Lt} (h : OkL x) : ∀ b : List ByteArray,clB x b = true → clT (kLT x) b ∧ cnT (kLT x):=by
 have node : ∀ (k so : Int) (wi : ByteArray) (ls : List ByteArray) (l : List Lt),k ≠ 9 → k ≠ 8 → (∀ x ∈ l, ∀ b : List ByteArray,clB x b = true → clT (kLT x) b ∧ cnT (kLT x)) → ∀ b : List ByteArray,clB (.mk k wi so noB ls l) b = true → clT (kLT (.mk k wi so noB ls l)) b ∧ cnT (kLT (.mk k wi so noB ls l)):=by
  intro k so wi ls l h9 h8 ih b hb
  have hb:=(clB_node h9 h8).1 hb
  have all : ∀ l : List Lt,(∀ x ∈ l, ∀ b : List ByteArray,clB x b = true → clT (kLT x) b ∧ cnT (kLT x)) → (∀ x ∈ l,clB x b = true) → clTs (kLTs l) b ∧ cnTs (kLTs l):=by
   intro l
   induction l with
   | nil=>intro _ _;exact ⟨trivial,trivial⟩
   | cons x l ihl =>
    intro h1 h2
    have a:=h1 x (by simp) b (h2 x (by simp))
    have c:=ihl (fun y hy=>h1 y (by simp [hy])) (fun y hy=>h2 y (by simp [hy]))
    exact ⟨⟨a.1,c.1⟩,⟨a.2,c.2⟩⟩
  have ha:=all l ih hb
  rw [kLT,clT,cnT]
  refine ⟨⟨fun e=>absurd e h9,by rw [if_neg h8];exact ha.1⟩,fun e=>absurd e h8,ha.2⟩
 induction h with
 | nil=>exact node 1 0 noB [] [] (by decide) (by decide) (fun x hx=>by cases hx)
 | pass k so wi x hk hw h1 h3 hx ih=>exact node k so wi [] [x] (by omega) (by omega) (fun y hy=>by rw [show y = x by simpa using hy];exact ih)
 | pick k wi ls l hk hw hl hn hx ih=>exact node k 0 wi ls l (by omega) (by omega) ih
 | bind nm x hn hx ih =>
  intro b hb
  obtain ⟨h1,h2⟩:=clB_bind.1 hb
  have a:=ih _ h2
  rw [kLT,clT,cnT,if_pos rfl]
  refine ⟨⟨fun e=>absurd e (by decide),a.1,trivial⟩,⟨fun _=>?_,a.2,trivial⟩⟩
  show stripK (kLT x) ≠ 9
  rw [strip_kLT hx]
  exact h1
 | var nm hn =>
  intro b hb
  rw [kLT,clT,cnT]
  exact ⟨⟨fun _=>hb,trivial⟩,⟨fun e=>absurd e (by decide),trivial⟩⟩
theorem kLT_check {x : Lt} (h : lCheck x = 0) : tCheck (kLT x) = 0:=by
 obtain ⟨ho,hc,hz⟩:=okL_check h
 have hk:=kLT_cl ho [] hc
 exact (check_ok (kLT_ok ho) hk.1 hk.2).2 (by rw [kLT_size];exact hz)
theorem roles_role {g : Gt} (hg : OkG g) : ∀ s ∈ rolesL g,isRoleB s = true:=by
 induction hg with
 | nil=>intro s hs;simp [rolesL,rolesLs,empty_rfl] at hs
 | send fr to so x hr h1 h3 hx ih =>
  intro s hs
  obtain ⟨g1,g2⟩:=roles_two hr
  simp [rolesL,rolesLs,role_some g1] at hs
  rcases hs with rfl | rfl | hs
  · exact g1
  · exact g2
  · exact ih s hs
 | pick fr to ls l hr hl hn hx ih =>
  intro s hs
  obtain ⟨g1,g2⟩:=roles_two hr
  simp [rolesL,rolesLs_flat,role_some g1] at hs
  rcases hs with rfl | rfl | ⟨y,hy,hs⟩
  · exact g1
  · exact g2
  · exact ih y hy s hs
 | bind nm x hnm hx ih =>
  intro s hs
  simp [rolesL,rolesLs,empty_rfl] at hs
  exact ih s hs
 | var nm hn=>intro s hs;simp [rolesL,rolesLs,empty_rfl] at hs
theorem not_role_noB : isRoleB noB = false:=by decide +kernel
theorem two_all {g : Gt} (hg : gCheck g = 0) {r0 r1 : ByteArray} (hr : rolesF g = [r0,r1]) :
 isRoleB r0 = true ∧ isRoleB r1 = true ∧ ∃ a,ofP r0 g = some a ∧ ofP r1 g = some (dlL r0 a) ∧ lCheck a = 0 ∧ lCheck (dlL r0 a) = 0 ∧ Wt r1 a ∧ Wt r0 (dlL r0 a):=by
 obtain ⟨ho,hz⟩:=okG_check hg
 have hm : ∀ s,s ∈ rolesL g ↔ s = r0 ∨ s = r1:=fun s=>by
  have : s ∈ rolesF g ↔ s ∈ rolesL g:=by unfold rolesF;rw [if_pos hg,compS_mem,sortS_mem]
  rw [← this,hr];simp
 have hnd : (rolesF g).Nodup:=by unfold rolesF;rw [if_pos hg];exact compS_nodup _
 rw [hr] at hnd
 have hne : r0 ≠ r1:=by simpa using hnd
 have q0:=roles_role ho r0 ((hm r0).2 (.inl rfl))
 have q1:=roles_role ho r1 ((hm r1).2 (.inr rfl))
 have n0 : r0 ≠ noB:=fun e=>by rw [e,not_role_noB] at q0;cases q0
 have n1 : r1 ≠ noB:=fun e=>by rw [e,not_role_noB] at q1;cases q1
 obtain ⟨a,ha⟩:=two_of hne n1 ho (fun s hs=>(hm s).1 hs) [] 60 (by decide) hg
 obtain ⟨b,hb⟩:=two_of (Ne.symm hne) n0 ho (fun s hs=>((hm s).1 hs).symm) [] 60 (by decide) hg
 obtain rfl : b = dlL r0 a:=by have:=hb.one;rw [ha.two] at this;cases this;rfl
 have oa:=ofP_ok ho a ha.one
 have ob:=ofP_ok ho _ hb.one
 exact ⟨q0,q1,a,ha.one,ha.two,lCheck_zero oa.1 ha.cl (by omega),lCheck_zero ob.1 hb.cl (by omega),ha.w,hb.w⟩
theorem ping_a : ofR pingG ⟨#[97]⟩ = (.mk 2 ⟨#[98]⟩ 1 noB [] [.mk 3 ⟨#[98]⟩ 2 noB [] [endL]],0):=by
 have e1 : (⟨#[97]⟩ : ByteArray).toList = (⟨#[97]⟩ : ByteArray).toList:=rfl
 have n1 : ¬ ((⟨#[97]⟩ : ByteArray).toList = (⟨#[98]⟩ : ByteArray).toList):=by decide +kernel
 have e : ofP ⟨#[97]⟩ pingG = some (.mk 2 ⟨#[98]⟩ 1 noB [] [.mk 3 ⟨#[98]⟩ 2 noB [] [endL]]):=by
  unfold pingG
  simp [ofP_eq,ofPs,comL,n1]
 unfold ofR
 rw [ping_check,e]
 simp [show isRoleB ⟨#[97]⟩ = true by decide +kernel]
theorem text_a (Γ : Gl) : DFn Tryz.prog Γ 9 [(Lt.mk 2 ⟨#[98]⟩ 1 noB [] [.mk 3 ⟨#[98]⟩ 2 noB [] [endL]]).d] (sD ⟨#[98,33,105,110,116,46,98,63,98,111,111,108,46,101,110,100]⟩):=by
 have h0:=ltext_end Γ
 have h1:=ltext_pass3 Γ ⟨#[98]⟩ 2 endL _ rfl (by decide) (by decide) (by decide) h0
 have h2:=ltext_pass2 Γ ⟨#[98]⟩ 1 _ _ rfl (by decide) (by decide) (by decide +kernel) h1
 have e : (⟨#[98]⟩ ++ ⟨#[33]⟩ ++ sortWL 1 ++ ⟨#[46]⟩ ++ (⟨#[98]⟩ ++ ⟨#[63]⟩ ++ sortWL 2 ++ ⟨#[46]⟩ ++ ⟨#[101,110,100]⟩) : ByteArray) = ⟨#[98,33,105,110,116,46,98,63,98,111,111,108,46,101,110,100]⟩:=by decide +kernel
 rw [e] at h2
 exact h2
set_option maxHeartbeats 32000000 in
set_option maxRecDepth 100000 in
theorem pdualLaw (Γ : Gl) (hΓ : PowT Γ) (g : Gt) : DFn Tryz.prog Γ 3 [g.d] (.v (.bool true)):=by
 have hpg:=ping_fn Γ
 have hP:=Of_fn Γ pingG ⟨#[97]⟩
 rw [ping_a] at hP
 have hT:=text_a Γ
 have hRo:=Roles_fn Γ g
 simp only [endL,Lt.d,Lt.ds,List.map_nil,pingG,Gt.d,Gt.ds] at hP hpg hT
 by_cases hg : gCheck g = 0
 rotate_left
 · have hz : (rolesF g).map sD = []:=by unfold rolesF;rw [if_neg hg];rfl
   rw [hz] at hRo
   have g0 : (gCheck g == 0) = false:=by simpa using hg
   have g1 : (gCheck g != 0) = true:=by simpa using hg
   generalize gCheck g = c at *
   clear hz
   obtain ⟨k,fr,to,so,nm,ls,l⟩:=g
   simp only [Gt.d] at hRo ⊢
   refine fn_of_swp (N:=93) Tryz.func3 rfl (by decide) rfl rfl (by simp) (fun C h0=>?_)
   simp only [argE]
   repeat' (first|(with_reducible apply zz1)|((with_reducible apply zz2);rfl;intro K' hK';simp only [WA,simprocAttr];(repeat (constructor;focus (clear hK';intros;simp_all;done)));(try (apply hK';clear hK' K')))|((with_reducible apply zz3);rfl;all_goals (intro h;try exact absurd h (by decide))))
   refine stop_call h0 rfl (by simp only [WA,simprocAttr]) rfl (by simp only [keepS,Option.isSome_some,WA,simprocAttr]) (hpg) ?_
   simp only [WA,simprocAttr,inX,dropS, ]
   (repeat (constructor;focus (clear hK';intros;simp_all;done)))
   (try (apply hK';clear hK' K'))
   refine stop_call h0 rfl (by simp only [WA,simprocAttr]) rfl (by simp only [keepS,Option.isSome_some,WA,simprocAttr]) (hP) ?_
   simp only [WA,simprocAttr,inX,dropS, ]
   (repeat (constructor;focus (clear hK';intros;simp_all;done)))
   (try (apply hK';clear hK' K'))
   repeat' (first|(with_reducible apply zz1)|((with_reducible apply zz2);rfl;intro K' hK';simp only [WA,simprocAttr];(repeat (constructor;focus (clear hK';intros;simp_all;done)));(try (apply hK';clear hK' K')))|((with_reducible apply zz3);rfl;all_goals (intro h;try exact absurd h (by decide))))
   (with_reducible refine zw17 ?_ (fun K' hK'=>?_)
    · rfl
    simp only [WA,simprocAttr,bne_self_eq_false,Bool.not_true,Bool.not_false,cond_true,cond_false]
    (repeat (constructor;focus (clear hK';intros;simp_all;done))))
   refine stop_guard rfl ?_
   refine stop_callF rfl (by simp only [WA,simprocAttr]) rfl rfl (hT) ?_
   simp only [WA,simprocAttr,inX,dropS,bne_self_eq_false,Bool.not_true,Bool.not_false,cond_true,cond_false]
   (repeat (constructor;focus (clear hK';intros;simp_all;done)))
   (try (apply hK';clear hK' K'))
   repeat' (first|(with_reducible apply zz1)|((with_reducible apply zz2);rfl;intro K' hK';simp only [WA,simprocAttr];(repeat (constructor;focus (clear hK';intros;simp_all;done)));(try (apply hK';clear hK' K')))|((with_reducible apply zz3);rfl;all_goals (intro h;try exact absurd h (by decide))))
   refine stop_call h0 rfl (by simp only [WA,simprocAttr]) rfl (by simp only [keepS,Option.isSome_some,WA,simprocAttr]) (hRo) ?_
   simp only [WA,simprocAttr,inX,dropS, ]
   (repeat (constructor;focus (clear hK';intros;simp_all;done)))
   (try (apply hK';clear hK' K'))
   repeat' (first|(with_reducible apply zz1)|((with_reducible apply zz2);rfl;intro K' hK';simp only [WA,simprocAttr,g0,g1,List.length_nil,Bool.not_true,Bool.not_false,cond_true,cond_false];(repeat (constructor;focus (clear hK';intros;simp_all;done)));(try (apply hK';clear hK' K')))|((with_reducible apply zz3);rfl;all_goals (intro h;try exact absurd h (by decide))))
   -- TRACE
   simp only [Kret,retL,retOne,oneV,WA,simprocAttr]
 rw [hg] at hRo
 by_cases h2 : (rolesF g).length = 2
 rotate_left
 · have hll : ((rolesF g).map sD).length = (rolesF g).length:=by simp
   have g2 : (((rolesF g).length : Int) != 2) = true:=by rw [bne_iff_ne];omega
   generalize (rolesF g).map sD = L at *
   generalize (rolesF g).length = n at *
   obtain ⟨k,fr,to,so,nm,ls,l⟩:=g
   simp only [Gt.d] at hRo ⊢
   refine fn_of_swp (N:=93) Tryz.func3 rfl (by decide) rfl rfl (by simp) (fun C h0=>?_)
   simp only [argE]
   repeat' (first|(with_reducible apply zz1)|((with_reducible apply zz2);rfl;intro K' hK';simp only [WA,simprocAttr];(repeat (constructor;focus (clear hK';intros;simp_all;done)));(try (apply hK';clear hK' K')))|((with_reducible apply zz3);rfl;all_goals (intro h;try exact absurd h (by decide))))
   refine stop_call h0 rfl (by simp only [WA,simprocAttr]) rfl (by simp only [keepS,Option.isSome_some,WA,simprocAttr]) (hpg) ?_
   simp only [WA,simprocAttr,inX,dropS, ]
   (repeat (constructor;focus (clear hK';intros;simp_all;done)))
   (try (apply hK';clear hK' K'))
   refine stop_call h0 rfl (by simp only [WA,simprocAttr]) rfl (by simp only [keepS,Option.isSome_some,WA,simprocAttr]) (hP) ?_
   simp only [WA,simprocAttr,inX,dropS, ]
   (repeat (constructor;focus (clear hK';intros;simp_all;done)))
   (try (apply hK';clear hK' K'))
   repeat' (first|(with_reducible apply zz1)|((with_reducible apply zz2);rfl;intro K' hK';simp only [WA,simprocAttr];(repeat (constructor;focus (clear hK';intros;simp_all;done)));(try (apply hK';clear hK' K')))|((with_reducible apply zz3);rfl;all_goals (intro h;try exact absurd h (by decide))))
   (with_reducible refine zw17 ?_ (fun K' hK'=>?_)
    · rfl
    simp only [WA,simprocAttr,bne_self_eq_false,Bool.not_true,Bool.not_false,cond_true,cond_false]
    (repeat (constructor;focus (clear hK';intros;simp_all;done))))
   refine stop_guard rfl ?_
   refine stop_callF rfl (by simp only [WA,simprocAttr]) rfl rfl (hT) ?_
   simp only [WA,simprocAttr,inX,dropS,bne_self_eq_false,Bool.not_true,Bool.not_false,cond_true,cond_false]
   (repeat (constructor;focus (clear hK';intros;simp_all;done)))
   (try (apply hK';clear hK' K'))
   repeat' (first|(with_reducible apply zz1)|((with_reducible apply zz2);rfl;intro K' hK';simp only [WA,simprocAttr];(repeat (constructor;focus (clear hK';intros;simp_all;done)));(try (apply hK';clear hK' K')))|((with_reducible apply zz3);rfl;all_goals (intro h;try exact absurd h (by decide))))
   refine stop_call h0 rfl (by simp only [WA,simprocAttr]) rfl (by simp only [keepS,Option.isSome_some,WA,simprocAttr]) (hRo) ?_
   simp only [WA,simprocAttr,inX,dropS, ]
   (repeat (constructor;focus (clear hK';intros;simp_all;done)))
   (try (apply hK';clear hK' K'))
   repeat' (first|(with_reducible apply zz1)|((with_reducible apply zz2);rfl;intro K' hK';simp only [WA,simprocAttr,hll,g2,bne_self_eq_false,beq_self_eq_true,Bool.not_true,Bool.not_false,cond_true,cond_false];(repeat (constructor;focus (clear hK';intros;simp_all;done)));(try (apply hK';clear hK' K')))|((with_reducible apply zz3);rfl;all_goals (intro h;try exact absurd h (by decide))))
   simp only [Kret,retL,retOne,oneV,WA,simprocAttr]
 obtain ⟨r0,r1,hr⟩ : ∃ r0 r1,rolesF g = [r0,r1]:=by
  match rolesF g,h2 with
  | [x,y],_=>exact ⟨x,y,rfl⟩
 obtain ⟨q0,q1,a,e1,e2,c1,c2,w1,w2⟩:=two_all hg hr
 have n0 : r0 ≠ noB:=fun e=>by rw [e,not_role_noB] at q0;cases q0
 have n1 : r1 ≠ noB:=fun e=>by rw [e,not_role_noB] at q1;cases q1
 have hO1:=Of_fn Γ g r0
 have hO2:=Of_fn Γ g r1
 have hR1 : ofR g r0 = (a,0):=by unfold ofR;rw [if_neg (by simpa using hg),q0,if_neg (by decide),e1]
 have hR2 : ofR g r1 = (dlL r0 a,0):=by unfold ofR;rw [if_neg (by simpa using hg),q1,if_neg (by decide),e2]
 rw [hR1] at hO1
 rw [hR2] at hO2
 have hT1:=pType_fn Γ r1 n1 a c1 w1
 have hT2:=pType_fn Γ r0 n0 _ c2 w2
 have k1:=kLT_check c1
 have k2:=kLT_check c2
 have hA:=are_fn Γ hΓ (kLT a) (kLT (dlL r0 a)) k1 k2 (by
  rw [kLT_dl] at k2 ⊢
  exact dG_dTp k1 k2 (kLT_noC (okL_check c1).1))
 rw [hr] at hRo
 clear hR1 hR2 e1 e2 c1 c2 w1 w2 k1 k2 h2 hr hg q0 q1 n0 n1
 generalize dlL r0 a = b at *
 generalize kLT a = s at *
 generalize kLT b = t at *
 simp only [List.map_cons,List.map_nil] at hRo
 obtain ⟨k,fr,to,so,nm,ls,l⟩:=g
 obtain ⟨ak,aw,aso,anm,als,al⟩:=a
 obtain ⟨bk,bw,bso,bnm,bls,bl⟩:=b
 obtain ⟨sk,sso,snm,sls,sl⟩:=s
 obtain ⟨tk,tso,tnm,tls,tl⟩:=t
 simp only [Gt.d,Lt.d,Tp.d] at hRo hO1 hO2 hT1 hT2 hA ⊢
 refine fn_of_swp (N:=93) Tryz.func3 rfl (by decide) rfl rfl (by simp) (fun C h0=>?_)
 simp only [argE]
 repeat' (first|(with_reducible apply zz1)|((with_reducible apply zz2);rfl;intro K' hK';simp only [WA,simprocAttr];(repeat (constructor;focus (clear hK';intros;simp_all;done)));(try (apply hK';clear hK' K')))|((with_reducible apply zz3);rfl;all_goals (intro h;try exact absurd h (by decide))))
 refine stop_call h0 rfl (by simp only [WA,simprocAttr]) rfl (by simp only [keepS,Option.isSome_some,WA,simprocAttr]) (hpg) ?_
 simp only [WA,simprocAttr,inX,dropS, ]
 (repeat (constructor;focus (clear hK';intros;simp_all;done)))
 (try (apply hK';clear hK' K'))
 refine stop_call h0 rfl (by simp only [WA,simprocAttr]) rfl (by simp only [keepS,Option.isSome_some,WA,simprocAttr]) (hP) ?_
 simp only [WA,simprocAttr,inX,dropS, ]
 (repeat (constructor;focus (clear hK';intros;simp_all;done)))
 (try (apply hK';clear hK' K'))
 repeat' (first|(with_reducible apply zz1)|((with_reducible apply zz2);rfl;intro K' hK';simp only [WA,simprocAttr];(repeat (constructor;focus (clear hK';intros;simp_all;done)));(try (apply hK';clear hK' K')))|((with_reducible apply zz3);rfl;all_goals (intro h;try exact absurd h (by decide))))
 (with_reducible refine zw17 ?_ (fun K' hK'=>?_)
  · rfl
  simp only [WA,simprocAttr,bne_self_eq_false,Bool.not_true,Bool.not_false,cond_true,cond_false]
  (repeat (constructor;focus (clear hK';intros;simp_all;done))))
 refine stop_guard rfl ?_
 refine stop_callF rfl (by simp only [WA,simprocAttr]) rfl rfl (hT) ?_
 simp only [WA,simprocAttr,inX,dropS,bne_self_eq_false,Bool.not_true,Bool.not_false,cond_true,cond_false]
 (repeat (constructor;focus (clear hK';intros;simp_all;done)))
 (try (apply hK';clear hK' K'))
 repeat' (first|(with_reducible apply zz1)|((with_reducible apply zz2);rfl;intro K' hK';simp only [WA,simprocAttr];(repeat (constructor;focus (clear hK';intros;simp_all;done)));(try (apply hK';clear hK' K')))|((with_reducible apply zz3);rfl;all_goals (intro h;try exact absurd h (by decide))))
 refine stop_call h0 rfl (by simp only [WA,simprocAttr]) rfl (by simp only [keepS,Option.isSome_some,WA,simprocAttr]) (hRo) ?_
 simp only [WA,simprocAttr,inX,dropS, ]
 (repeat (constructor;focus (clear hK';intros;simp_all;done)))
 (try (apply hK';clear hK' K'))
 repeat' (first|(with_reducible apply zz1)|((with_reducible apply zz2);rfl;intro K' hK';simp only [WA,simprocAttr,bne_self_eq_false,List.length_cons,List.length_nil,Bool.not_true,Bool.not_false,cond_true,cond_false];(repeat (constructor;focus (clear hK';intros;simp_all;done)));(try (apply hK';clear hK' K')))|((with_reducible apply zz3);rfl;all_goals (intro h;try exact absurd h (by decide))))
 (with_reducible refine swp_drawX ?_ ?_ ?_ (⟨⟨[(4,.tup [.agg [iD ak,sD aw,iD aso,sD anm,.slc (als.map sD),.slc (Lt.ds al)],iD 0])],[]⟩,[],[],[],[]⟩) _ rfl (fun K' hK' gops fin hgops hfin=>?_)
  · kernel_rfl
  · rfl
  · rfl
  repeat' first
   | (refine vcX_dead rfl trivial (by simp only [WA,simprocAttr,UX,UA];rfl) (by simp only [List.nil_append,List.cons_append];rfl) (by simp only [zn2];rfl) ?_)
   | (refine vcX_step rfl rfl trivial (by simp only [WA,simprocAttr,UX,UA,hO1,List.length_cons,List.length_nil,List.getD_cons_zero,List.getD_cons_succ ];rfl) ?_ (by simp only [WA,simprocAttr,UX,UA];rfl) (by simp only [WA,simprocAttr,UX,UA];rfl) (by simp only [List.nil_append,List.cons_append];rfl) (by simp only [zn2];rfl) ?_;focus (first | trivial | ((repeat' apply And.intro) <;> first | trivial | assumption | (clear hK' hfin hgops;intros;simp_all;done))))
  (refine vcX_nil (by subst hfin;kernel_rfl) ?_)
  clear hfin hgops fin gops
  (try (apply hK';clear hK' K')))
 repeat' (first|(with_reducible apply zz1)|((with_reducible apply zz2);rfl;intro K' hK';simp only [WA,simprocAttr];(repeat (constructor;focus (clear hK';intros;simp_all;done)));(try (apply hK';clear hK' K')))|((with_reducible apply zz3);rfl;all_goals (intro h;try exact absurd h (by decide))))
 (with_reducible refine swp_drawX ?_ ?_ ?_ (⟨⟨[(4,.tup [.agg [iD bk,sD bw,iD bso,sD bnm,.slc (bls.map sD),.slc (Lt.ds bl)],iD 0])],[]⟩,[],[],[],[]⟩) _ rfl (fun K' hK' gops fin hgops hfin=>?_)
  · kernel_rfl
  · rfl
  · rfl
  repeat' first
   | (refine vcX_dead rfl trivial (by simp only [WA,simprocAttr,UX,UA];rfl) (by simp only [List.nil_append,List.cons_append];rfl) (by simp only [zn2];rfl) ?_)
   | (refine vcX_step rfl rfl trivial (by simp only [WA,simprocAttr,UX,UA,hO2,List.length_cons,List.length_nil,List.getD_cons_zero,List.getD_cons_succ ];rfl) ?_ (by simp only [WA,simprocAttr,UX,UA];rfl) (by simp only [WA,simprocAttr,UX,UA];rfl) (by simp only [List.nil_append,List.cons_append];rfl) (by simp only [zn2];rfl) ?_;focus (first | trivial | ((repeat' apply And.intro) <;> first | trivial | assumption | (clear hK' hfin hgops;intros;simp_all;done))))
  (refine vcX_nil (by subst hfin;kernel_rfl) ?_)
  clear hfin hgops fin gops
  (try (apply hK';clear hK' K')))
 repeat' (first|(with_reducible apply zz1)|((with_reducible apply zz2);rfl;intro K' hK';simp only [WA,simprocAttr,bne_self_eq_false,cond_true,cond_false];(repeat (constructor;focus (clear hK';intros;simp_all;done)));(try (apply hK';clear hK' K')))|((with_reducible apply zz3);rfl;all_goals (intro h;try exact absurd h (by decide))))
 refine stop_call h0 rfl (by simp only [WA,simprocAttr]) rfl (by simp only [keepS,Option.isSome_some,WA,simprocAttr]) (hT1) ?_
 simp only [WA,simprocAttr,inX,dropS, ]
 (repeat (constructor;focus (clear hK';intros;simp_all;done)))
 (try (apply hK';clear hK' K'))
 repeat' (first|(with_reducible apply zz1)|((with_reducible apply zz2);rfl;intro K' hK';simp only [WA,simprocAttr];(repeat (constructor;focus (clear hK';intros;simp_all;done)));(try (apply hK';clear hK' K')))|((with_reducible apply zz3);rfl;all_goals (intro h;try exact absurd h (by decide))))
 refine stop_call h0 rfl (by simp only [WA,simprocAttr]) rfl (by simp only [keepS,Option.isSome_some,WA,simprocAttr]) (hT2) ?_
 simp only [WA,simprocAttr,inX,dropS, ]
 (repeat (constructor;focus (clear hK';intros;simp_all;done)))
 (try (apply hK';clear hK' K'))
 repeat' (first|(with_reducible apply zz1)|((with_reducible apply zz2);rfl;intro K' hK';simp only [WA,simprocAttr,bne_self_eq_false,cond_true,cond_false];(repeat (constructor;focus (clear hK';intros;simp_all;done)));(try (apply hK';clear hK' K')))|((with_reducible apply zz3);rfl;all_goals (intro h;try exact absurd h (by decide))))
 refine stop_call h0 rfl (by simp only [WA,simprocAttr]) rfl (by simp only [keepS,Option.isSome_some,WA,simprocAttr]) (hA) ?_
 simp only [WA,simprocAttr,inX,dropS, ]
 (repeat (constructor;focus (clear hK';intros;simp_all;done)))
 (try (apply hK';clear hK' K'))
 repeat' (first|(with_reducible apply zz1)|((with_reducible apply zz2);rfl;intro K' hK';simp only [WA,simprocAttr,beq_self_eq_true,cond_true,cond_false];(repeat (constructor;focus (clear hK';intros;simp_all;done)));(try (apply hK';clear hK' K')))|((with_reducible apply zz3);rfl;all_goals (intro h;try exact absurd h (by decide))))
 simp only [Kret,retL,retOne,oneV,WA,simprocAttr]
end Go.Proofs.YtdcplkefmpjppaaGreatDoor.GG
