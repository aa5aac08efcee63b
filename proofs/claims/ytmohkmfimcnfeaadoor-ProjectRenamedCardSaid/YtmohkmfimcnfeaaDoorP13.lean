/- A role that has no part does nothing: plain; project.inner walked. -/
-- TYPESA
import Derived.Test.YtmohkmfimcnfeaaDoorP12
set_option linter.unusedVariables false
set_option linter.unusedSimpArgs false
namespace Go.Proofs.YtmohkmfimcnfeaaDoor
open Go.RowKit Go.Sw

theorem gchks_each : ∀ {l : List Gt} {b : List ByteArray} {left : Int},0 ≤ left → (gchks l b left).1 = 0 → ∀ x ∈ l, ∃ left',0 ≤ left' ∧ (gchk x b left').1 = 0
 | [],b,left,h0,h,x,hx=>by cases hx
 | y :: l,b,left,h0,h,x,hx=>by
  unfold gchks at h
  split at h
  · rename_i he;exact absurd h he
  · rename_i he
    have he : (gchk y b left).1 = 0:=by omega
    rcases List.mem_cons.1 hx with rfl | hx
    · exact ⟨left,h0,he⟩
    · exact gchks_each ((gchk_left y b left h0).2 he) h x hx
theorem gchk_node {k : Int} {fr to : ByteArray} {so : Int} {nm : ByteArray} {ls : List ByteArray} {l : List Gt} {b : List ByteArray} {left : Int} (h0 : 0 ≤ left) (h : (gchk (.mk k fr to so nm ls l) b left).1 = 0) :
 (k = 9 → nm ∈ b) ∧ ∀ x ∈ l, ∃ left',0 ≤ left' ∧ (gchk x (if k = 8 then b ++ [nm] else b) left').1 = 0:=by
 unfold gchk at h
 by_cases h1 : left - 1 < 0
 · rw [if_pos h1] at h;simp at h
 rw [if_neg h1] at h
 by_cases h2 : shapedG (.mk k fr to so nm ls l) = false
 · rw [if_pos h2] at h;simp at h
 rw [if_neg h2] at h
 by_cases h3 : k = 9
 · subst h3
   rw [if_pos rfl] at h
   rw [if_neg (by decide)]
   by_cases h4 : inL b nm = false
   · rw [if_pos h4] at h;simp at h
   · rw [if_neg h4] at h
     exact ⟨fun _=>inL_iff.1 (by simpa using h4),gchks_each (by omega) h⟩
 rw [if_neg h3] at h
 by_cases h5 : k = 8
 · subst h5
   rw [if_pos rfl] at h
   rw [if_pos rfl]
   by_cases h6 : stripGF l = 9
   · rw [if_pos h6] at h;simp at h
   · rw [if_neg h6] at h
     exact ⟨fun e=>absurd e h3,gchks_each (by omega) h⟩
 · rw [if_neg h5] at h
   rw [if_neg h5]
   exact ⟨fun e=>absurd e h3,gchks_each (by omega) h⟩
def EV (b : List ByteArray) (x : Lt) : Prop:=x = endL ∨ ∃ nm ∈ b,x = varL nm
theorem ms_ev {b : List ByteArray} {x y z : Lt} (hx : EV b x) (ox : OkL x) (oy : OkL y) (h : ms 60 x y = some z) : z = x:=by
 rcases hx with rfl | ⟨nm, -,rfl⟩
 · cases (mo1_iff ox oy).1 h with
   | nil=>rfl
   | pick _ _ _ _ _ _ _ hk=>omega
 · cases (mo1_iff ox oy).1 h with
   | pick _ _ _ _ _ _ _ hk=>omega
   | var=>rfl
theorem fold1_ev {b : List ByteArray} : ∀ (l : List Lt) (x z : Lt),EV b x → OkL x → (∀ y ∈ l,OkL y) → fold1 x l = some z → z = x
 | [],x,z,_,_,_,h=>by unfold fold1 at h;cases h;rfl
 | y :: l,x,z,hx,ox,hl,h=>by
  unfold fold1 at h
  cases hm : ms 60 x y with
  | none=>rw [hm] at h;cases h
  | some w =>
   rw [hm] at h
   obtain rfl:=ms_ev hx ox (hl y (by simp)) hm
   exact fold1_ev l w z hx ox (fun y hy=>hl y (by simp [hy])) h
theorem foldL_ev {b : List ByteArray} {l : List Lt} {z : Lt} (hl : ∀ y ∈ l,OkL y ∧ EV b y) (h : foldL l = some z) : EV b z:=by
 cases l with
 | nil=>cases h
 | cons x l =>
  rw [fold1_ev l x z (hl x (by simp)).2 (hl x (by simp)).1 (fun y hy=>(hl y (by simp [hy])).1) h]
  exact (hl x (by simp)).2
theorem ofP_ev {r : ByteArray} {g : Gt} (hg : OkG g) : r ∉ rolesL g → ∀ (b : List ByteArray) (left : Int),0 ≤ left → (gchk g b left).1 = 0 → ∀ x,ofP r g = some x → EV b x:=by
 have com : ∀ (k : Int) (fr to : ByteArray) (so : Int) (ls : List ByteArray) (l : List Gt) (b : List ByteArray),rolesB true fr to = true → (∀ y ∈ l,OkG y) → r ∉ rolesL (.mk k fr to so noB ls l) → (∀ y ∈ l,r ∉ rolesL y → ∀ x,ofP r y = some x → EV b x) → ∀ xs,ofPs r l = some xs → ∀ z,comL r k fr to so ls xs = some z → EV b z:=by
  intro k fr to so ls l b hr hl hno ih xs hs z hz
  obtain ⟨r1,r2⟩:=roles_two hr
  simp only [rolesL,role_some r1] at hno
  have n1 : r ≠ fr:=fun e=>hno (by simp [e])
  have n2 : r ≠ to:=fun e=>hno (by simp [e])
  unfold comL at hz
  rw [if_neg (by rintro (e | e); · exact n1 (toList_inj e)
                 · exact n2 (toList_inj e))] at hz
  refine foldL_ev (fun y hy=>?_) hz
  obtain ⟨q1,q2⟩:=ofPs_some hs
  obtain ⟨j,hj,rfl⟩:=List.getElem_of_mem hy
  have he:=q2 j _ _ (List.getElem?_eq_getElem (by omega)) (List.getElem?_eq_getElem hj)
  have hm : l[j]'(by omega) ∈ l:=List.getElem_mem _
  refine ⟨(ofP_ok (hl _ hm) _ he).1,ih _ hm (fun q=>hno ?_) _ he⟩
  rw [rolesLs_flat]
  simp only [Bool.false_eq_true,if_false,List.mem_append,List.mem_flatMap]
  exact .inr ⟨_,hm,q⟩
 induction hg with
 | nil =>
  intro _ b left _ _ x he
  rw [ofP_eq,if_pos rfl] at he
  cases he
  exact .inl rfl
 | send fr to so x hr h1 h3 hx ih =>
  intro hno b left h0 hc z he
  have hn:=(gchk_node h0 hc).2
  rw [if_neg (by decide)] at hn
  rw [ofP_eq,if_neg (by decide),if_neg (by decide),if_neg (by decide)] at he
  cases hs : ofPs r [x] with
  | none=>rw [hs] at he;cases he
  | some xs =>
   rw [hs] at he
   refine com 2 fr to so [] [x] b hr (fun y hy=>by rw [show y = x by simpa using hy];exact hx) hno (fun y hy hy2 w hw=>?_) xs hs z he
   obtain ⟨lf,q1,q2⟩:=hn y hy
   obtain rfl : y = x:=by simpa using hy
   exact ih hy2 b lf q1 q2 w hw
 | pick fr to ls l hr hl hn' hx ih =>
  intro hno b left h0 hc z he
  have hn:=(gchk_node h0 hc).2
  rw [if_neg (by decide)] at hn
  rw [ofP_eq,if_neg (by decide),if_neg (by decide),if_neg (by decide)] at he
  cases hs : ofPs r l with
  | none=>rw [hs] at he;cases he
  | some xs =>
   rw [hs] at he
   refine com 6 fr to 0 ls l b hr hx hno (fun y hy hy2 w hw=>?_) xs hs z he
   obtain ⟨lf,q1,q2⟩:=hn y hy
   exact ih y hy hy2 b lf q1 q2 w hw
 | bind nm x hn' hx ih =>
  intro hno b left h0 hc z he
  have hn:=(gchk_node h0 hc).2
  rw [if_pos rfl] at hn
  rw [ofP_eq,if_neg (by decide),if_neg (by decide),if_pos rfl] at he
  simp only [ofPF] at he
  cases hs : ofP r x with
  | none=>rw [hs] at he;cases he
  | some y =>
   rw [hs] at he
   cases he
   obtain ⟨lf,q1,q2⟩:=hn x (by simp)
   have hno2 : r ∉ rolesL x:=fun q=>hno (by simp [rolesL,rolesLs,empty_rfl,q])
   rcases ih hno2 (b ++ [nm]) lf q1 q2 y hs with rfl | ⟨n2,hm,rfl⟩
   · left;rfl
   · have e : recL nm (varL n2) = if n2.toList = nm.toList then endL else varL n2:=rfl
     rw [e]
     split
     · left;rfl
     · rename_i hne
       right
       refine ⟨n2,?_,rfl⟩
       rcases List.mem_append.1 hm with q | q
       · exact q
       · exact absurd (by rw [show n2 = nm by simpa using q]) hne
 | var nm hn =>
  intro _ b left h0 hc z he
  rw [ofP_eq,if_neg (by decide),if_pos rfl] at he
  cases he
  exact .inr ⟨nm,(gchk_node h0 hc).1 rfl,rfl⟩
theorem ofP_absent {r : ByteArray} {g : Gt} (hg : gCheck g = 0) (hr : r ∉ rolesF g) {x : Lt} (he : ofP r g = some x) : x = endL:=by
 have hno : r ∉ rolesL g:=fun q=>hr (by unfold rolesF;rw [if_pos hg,compS_mem,sortS_mem];exact q)
 rcases ofP_ev (okG_check hg).1 hno [] 60 (by omega) hg x he with h | ⟨nm,h, -⟩
 · exact h
 · cases h

set_option maxHeartbeats 8000000 in
set_option maxRecDepth 100000 in
theorem inner_fn (Γ : Gl) {x : Lt} (hx : OkL x) : DFn Tryd.prog Γ 54 [x.d] (innL x).d:=by
 obtain ⟨R,hR⟩ : ∃ R,innL x = R:=⟨_,rfl⟩
 rw [hR]
 obtain ⟨k,wi,so,nm,ls,l⟩:=x
 simp only [Lt.d]
 obtain ⟨rk,rw',rs,rn,rls,rl⟩:=R
 refine fn_of_swp (N:=11) Tryd.func54 rfl (by decide) rfl rfl (by simp) (fun C h0=>?_)
 simp only [argE]
 repeat' (first|(with_reducible apply zz1)|((with_reducible apply zz2);rfl;intro K' hK';simp only [WA,simprocAttr];(repeat (constructor;focus (clear hK';intros;simp_all;done)));(try (apply hK';clear hK' K')))|((with_reducible apply zz3);rfl;all_goals (intro h;try exact absurd h (by decide))))
 refine swp_loop (α := Lt) (fun y=>[(1,.ref 0 0),(2,.ref 1 0)]) (fun y=>[(0,.cells y.cs),(1,.cells [.d (iD 0),.d (sD noB),.d (iD 0),.d (sD noB),.nil,.nil])])
  (fun y=>innL y = .mk rk rw' rs rn rls rl ∧ OkL y) Lt.size (.mk k wi so nm ls l) ⟨hR,hx⟩ (by simp only [Lt.cs];refine sub_of h0 ?_ ?_ ?_ <;> simp only [US,WA,simprocAttr]) (fun y hy=>?_)
 obtain ⟨hy,oy⟩:=hy
 clear hR hx
 obtain ⟨yk,yw,ys,yn,yls,yl⟩:=y
 simp only [Lt.cs]
 by_cases h8 : yk = 8
 · subst h8
   obtain ⟨z,rfl⟩ : ∃ z,yl = [z]:=by
    cases oy with
    | pass _ _ _ _ hk=>omega
    | pick _ _ _ _ hk=>omega
    | bind _ x=>exact ⟨x,rfl⟩
   have oz : OkL z:=(okL_kids oy).2.2 z (by simp)
   have hz : innL z = .mk rk rw' rs rn rls rl:=by
    rw [innL,if_pos rfl,innLs] at hy
    exact hy
   obtain ⟨zk,zw,zs,zn,zls,zl⟩:=z
   simp only [Lt.ds,Lt.d]
   repeat' (first|(with_reducible apply zz1)|((with_reducible apply zz2);rfl;intro K' hK';simp only [WA,simprocAttr,List.getD_cons_zero,List.length_cons,List.length_nil];(repeat (constructor;focus (clear hK';intros;simp_all;done)));(try (apply hK';clear hK' K')))|((with_reducible apply zz3);rfl;all_goals (intro h;try exact absurd h (by decide))))
   refine ⟨.mk zk zw zs zn zls zl,⟨hz,oz⟩,by simp only [Lt.size,Lt.sizes];omega,by simp only [Lt.cs];refine sub_of h0 ?_ ?_ ?_ <;> simp only [US,WA,simprocAttr]⟩
 · have g8 : (yk == 8) = false:=by simpa using h8
   rw [innL,if_neg h8] at hy
   cases hy
   repeat' (first|(with_reducible apply zz1)|((with_reducible apply zz2);rfl;intro K' hK';simp only [WA,simprocAttr,g8];(repeat (constructor;focus (clear hK';intros;simp_all;done)));(try (apply hK';clear hK' K')))|((with_reducible apply zz3);rfl;all_goals (intro h;try exact absurd h (by decide))))
   simp only [Kret,retL,retOne,oneV,WA,simprocAttr,Lt.d]
end Go.Proofs.YtmohkmfimcnfeaaDoor
