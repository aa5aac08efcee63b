/- comply.of, Do, the law ComplyBelow; a symbolic walk. -/
import Derived.Test.YtgecnlcbdbaneaaDoorH27
import Derived.Test.YtgecnlcbdbaneaaDoorH17
import Derived.Test.YtgecnlcbdbaneaaDoorHQ5
-- TYPESB
set_option linter.unusedVariables false
set_option linter.unusedSimpArgs false
namespace Go.Proofs.YtgecnlcbdbaneaaDoor
open Go.RowKit Go.Sw
open _root_.Option renaming isSome_some → za

def cofD (x y : Tp) : D:=if qd9 x = 0 then .tup [.slc ((ofP x).map Nd.d),.slc ((ofP y).map Nd.d),iD (qd9 y)] else .tup [.slc [],.slc [],iD (qd9 x)]
set_option maxHeartbeats 8000000 in
set_option maxRecDepth 100000 in
theorem cof_fn (Γ : Gl) (x y : Tp) : DFn Tryd.prog Γ 56 [x.d,y.d] (cofD x y):=by
 have hx:=xu5 Γ x
 have hy:=xu5 Γ y
 unfold OfFn at hx hy
 unfold cofD
 generalize (ofP x).map Nd.d = A at hx ⊢
 generalize (ofP y).map Nd.d = B at hy ⊢
 generalize qd9 x = c at hx ⊢
 generalize qd9 y = d at hy ⊢
 obtain ⟨k,so,nm,ls,l⟩:=x
 obtain ⟨k',so',nm',ls',l'⟩:=y
 simp only [Tp.d] at hx hy ⊢
 by_cases hc : c = 0
 · rw [if_pos hc]
   have g1 : (c != 0) = false:=by simpa using hc
   refine qa4 (N:=25) Tryd.func56 rfl (by decide) rfl rfl (by simp) (fun C h0=>?_)
   simp only [qj1]
   repeat' (first|(with_reducible apply zz1)|((with_reducible apply zz2);rfl;intro K' hK';simp only [WB,simprocAttr];(repeat (constructor;focus (clear hK';intros;simp_all;done)));(try (apply hK';clear hK' K')))|((with_reducible apply zz3);rfl;all_goals (intro h;try exact absurd h (by decide))))
   refine qb4 h0 rfl (by simp only [WB,simprocAttr]) rfl (by simp only [qe6,za,WB,simprocAttr]) (hx) ?_
   simp only [WB,simprocAttr,inX,qc7, ]
   (repeat (constructor;focus (clear hK';intros;simp_all;done)))
   (try (apply hK';clear hK' K'))
   repeat' (first|(with_reducible apply zz1)|((with_reducible apply zz2);rfl;intro K' hK';simp only [WB,simprocAttr];(repeat (constructor;focus (clear hK';intros;simp_all;done)));(try (apply hK';clear hK' K')))|((with_reducible apply zz3);rfl;all_goals (intro h;try exact absurd h (by decide))))
   refine qb4 h0 rfl (by simp only [WB,simprocAttr]) rfl (by simp only [qe6,za,WB,simprocAttr]) (hy) ?_
   simp only [WB,simprocAttr,inX,qc7, ]
   (repeat (constructor;focus (clear hK';intros;simp_all;done)))
   (try (apply hK';clear hK' K'))
   repeat' (first|(with_reducible apply zz1)|((with_reducible apply zz2);rfl;intro K' hK';simp only [WB,simprocAttr,g1];(repeat (constructor;focus (clear hK';intros;simp_all;done)));(try (apply hK';clear hK' K')))|((with_reducible apply zz3);rfl;all_goals (intro h;try exact absurd h (by decide))))
   simp only [qf7,qd5,qa2,qd6,WB,simprocAttr]
 · rw [if_neg hc]
   have g1 : (c != 0) = true:=by simpa using hc
   refine qa4 (N:=25) Tryd.func56 rfl (by decide) rfl rfl (by simp) (fun C h0=>?_)
   simp only [qj1]
   repeat' (first|(with_reducible apply zz1)|((with_reducible apply zz2);rfl;intro K' hK';simp only [WB,simprocAttr];(repeat (constructor;focus (clear hK';intros;simp_all;done)));(try (apply hK';clear hK' K')))|((with_reducible apply zz3);rfl;all_goals (intro h;try exact absurd h (by decide))))
   refine qb4 h0 rfl (by simp only [WB,simprocAttr]) rfl (by simp only [qe6,za,WB,simprocAttr]) (hx) ?_
   simp only [WB,simprocAttr,inX,qc7, ]
   (repeat (constructor;focus (clear hK';intros;simp_all;done)))
   (try (apply hK';clear hK' K'))
   repeat' (first|(with_reducible apply zz1)|((with_reducible apply zz2);rfl;intro K' hK';simp only [WB,simprocAttr];(repeat (constructor;focus (clear hK';intros;simp_all;done)));(try (apply hK';clear hK' K')))|((with_reducible apply zz3);rfl;all_goals (intro h;try exact absurd h (by decide))))
   refine qb4 h0 rfl (by simp only [WB,simprocAttr]) rfl (by simp only [qe6,za,WB,simprocAttr]) (hy) ?_
   simp only [WB,simprocAttr,inX,qc7, ]
   (repeat (constructor;focus (clear hK';intros;simp_all;done)))
   (try (apply hK';clear hK' K'))
   repeat' (first|(with_reducible apply zz1)|((with_reducible apply zz2);rfl;intro K' hK';simp only [WB,simprocAttr,g1];(repeat (constructor;focus (clear hK';intros;simp_all;done)));(try (apply hK';clear hK' K')))|((with_reducible apply zz3);rfl;all_goals (intro h;try exact absurd h (by decide))))
   simp only [qf7,qd5,qa2,qd6,WB,simprocAttr]
def doP (x y : Tp) : Bool:=if qs6 x y = 0 then (vg4 (ofP x) (ofP y)).isNone else false
theorem yc6 (x y : Tp) : qs6 x y ≠ 0 → ∃ A B,cofD x y = .tup [.slc A,.slc B,iD (qs6 x y)]:=by
 unfold cofD qs6
 split
 · intro _;exact ⟨_,_,rfl⟩
 · intro _;exact ⟨_,_,rfl⟩
theorem dG_gd {x : Tp} (h : qd9 x = 0) : Gd (dG x):=⟨(vl8 h).1,by have:=(vl8 h).2.1;omega,(vl8 h).2.2.1,(vl8 h).2.2.2.1⟩
theorem vu8 {g h : List Nd} (Hg : Gd g) (Hh : Gd h) : xj7 g h:=by
 intro p a0 a1 b0 b1 l hl
 have gx:=Hg.ok _ (qd0 a0 a1)
 have gy:=Hh.ok _ (qd0 b0 b1)
 have rx:=vc7 Hg.pos gx
 have ry:=vc7 Hh.pos gy
 unfold qq0 at hl
 split at hl
 · cases hl
 split at hl
 · cases hl
 split at hl
 · cases hl
   exact ⟨by simp,fun s hs=>by rw [List.mem_singleton] at hs;subst hs;exact ⟨rx 0,ry 0⟩⟩
 split at hl
 · split at hl
   · cases hl
     exact ⟨by simp,fun s hs=>by rw [List.mem_singleton] at hs;subst hs;exact ⟨rx 1,ry 1⟩⟩
   · cases hl
 split at hl
 · split at hl
   · cases hl
     refine ⟨?_,fun s hs=>?_⟩
     · rw [List.length_map]
       unfold ym8
       have h1:=gx.ok.ls
       have h2:=gy.ok.ls
       split <;> assumption
     · obtain ⟨l, -,rfl⟩:=List.mem_map.1 hs
       exact ⟨rx _,ry _⟩
   · cases hl
 · cases hl
   exact ⟨by simp,fun s hs=>by cases hs⟩
set_option maxHeartbeats 8000000 in
set_option maxRecDepth 100000 in
theorem ys4 (Γ : Gl) (x y : Tp) : DFn Tryd.prog Γ 18 [x.d,y.d] (.tup [bD (doP x y),iD (qs6 x y)]):=by
 have ho:=cof_fn Γ x y
 unfold doP
 by_cases hc : qs6 x y = 0
 · obtain ⟨h1,h2⟩:=qi6 hc
   have hs:=yt2 Γ (ofP x) (ofP y) (qo7 h1) (qo7 h2) (vu8 (qo7 h1) (qo7 h2))
   rw [if_pos hc,hc]
   unfold cofD at ho
   rw [if_pos h1,h2] at ho
   generalize vg4 (ofP x) (ofP y) = r at *
   generalize (ofP x).map Nd.d = A at *
   generalize (ofP y).map Nd.d = B at *
   obtain ⟨k,so,nm,ls,l⟩:=x
   obtain ⟨k',so',nm',ls',l'⟩:=y
   simp only [Tp.d] at ho ⊢
   cases r with
   | none =>
    simp only [yn5] at hs
    refine qa4 (N:=29) Tryd.func18 rfl (by decide) rfl rfl (by simp) (fun C h0=>?_)
    simp only [qj1]
    repeat' (first|(with_reducible apply zz1)|((with_reducible apply zz2);rfl;intro K' hK';simp only [WB,simprocAttr];(repeat (constructor;focus (clear hK';intros;simp_all;done)));(try (apply hK';clear hK' K')))|((with_reducible apply zz3);rfl;all_goals (intro h;try exact absurd h (by decide))))
    refine qb4 h0 rfl (by simp only [WB,simprocAttr]) rfl (by simp only [qe6,za,WB,simprocAttr]) (ho) ?_
    simp only [WB,simprocAttr,inX,qc7, ]
    (repeat (constructor;focus (clear hK';intros;simp_all;done)))
    (try (apply hK';clear hK' K'))
    repeat' (first|(with_reducible apply zz1)|((with_reducible apply zz2);rfl;intro K' hK';simp only [WB,simprocAttr,bne_self_eq_false];(repeat (constructor;focus (clear hK';intros;simp_all;done)));(try (apply hK';clear hK' K')))|((with_reducible apply zz3);rfl;all_goals (intro h;try exact absurd h (by decide))))
    refine qb4 h0 rfl (by simp only [WB,simprocAttr]) rfl (by simp only [qe6,za,WB,simprocAttr]) (hs) ?_
    simp only [WB,simprocAttr,inX,qc7, ]
    (repeat (constructor;focus (clear hK';intros;simp_all;done)))
    (try (apply hK';clear hK' K'))
    repeat' (first|(with_reducible apply zz1)|((with_reducible apply zz2);rfl;intro K' hK';simp only [WB,simprocAttr];(repeat (constructor;focus (clear hK';intros;simp_all;done)));(try (apply hK';clear hK' K')))|((with_reducible apply zz3);rfl;all_goals (intro h;try exact absurd h (by decide))))
    simp only [qf7,qd5,qa2,qd6,WB,simprocAttr]
    rfl
   | some w =>
    simp only [yn5] at hs
    refine qa4 (N:=29) Tryd.func18 rfl (by decide) rfl rfl (by simp) (fun C h0=>?_)
    simp only [qj1]
    repeat' (first|(with_reducible apply zz1)|((with_reducible apply zz2);rfl;intro K' hK';simp only [WB,simprocAttr];(repeat (constructor;focus (clear hK';intros;simp_all;done)));(try (apply hK';clear hK' K')))|((with_reducible apply zz3);rfl;all_goals (intro h;try exact absurd h (by decide))))
    refine qb4 h0 rfl (by simp only [WB,simprocAttr]) rfl (by simp only [qe6,za,WB,simprocAttr]) (ho) ?_
    simp only [WB,simprocAttr,inX,qc7, ]
    (repeat (constructor;focus (clear hK';intros;simp_all;done)))
    (try (apply hK';clear hK' K'))
    repeat' (first|(with_reducible apply zz1)|((with_reducible apply zz2);rfl;intro K' hK';simp only [WB,simprocAttr,bne_self_eq_false];(repeat (constructor;focus (clear hK';intros;simp_all;done)));(try (apply hK';clear hK' K')))|((with_reducible apply zz3);rfl;all_goals (intro h;try exact absurd h (by decide))))
    refine qb4 h0 rfl (by simp only [WB,simprocAttr]) rfl (by simp only [qe6,za,WB,simprocAttr]) (hs) ?_
    simp only [WB,simprocAttr,inX,qc7, ]
    (repeat (constructor;focus (clear hK';intros;simp_all;done)))
    (try (apply hK';clear hK' K'))
    repeat' (first|(with_reducible apply zz1)|((with_reducible apply zz2);rfl;intro K' hK';simp only [WB,simprocAttr];(repeat (constructor;focus (clear hK';intros;simp_all;done)));(try (apply hK';clear hK' K')))|((with_reducible apply zz3);rfl;all_goals (intro h;try exact absurd h (by decide))))
    simp only [qf7,qd5,qa2,qd6,WB,simprocAttr]
    rfl
 · rw [if_neg hc]
   obtain ⟨A,B,hb⟩:=yc6 x y hc
   rw [hb] at ho
   have g1 : (qs6 x y != 0) = true:=by simpa using hc
   generalize qs6 x y = c at ho g1 ⊢
   obtain ⟨k,so,nm,ls,l⟩:=x
   obtain ⟨k',so',nm',ls',l'⟩:=y
   simp only [Tp.d] at ho ⊢
   refine qa4 (N:=29) Tryd.func18 rfl (by decide) rfl rfl (by simp) (fun C h0=>?_)
   simp only [qj1]
   repeat' (first|(with_reducible apply zz1)|((with_reducible apply zz2);rfl;intro K' hK';simp only [WB,simprocAttr];(repeat (constructor;focus (clear hK';intros;simp_all;done)));(try (apply hK';clear hK' K')))|((with_reducible apply zz3);rfl;all_goals (intro h;try exact absurd h (by decide))))
   refine qb4 h0 rfl (by simp only [WB,simprocAttr]) rfl (by simp only [qe6,za,WB,simprocAttr]) (ho) ?_
   simp only [WB,simprocAttr,inX,qc7, ]
   (repeat (constructor;focus (clear hK';intros;simp_all;done)))
   (try (apply hK';clear hK' K'))
   repeat' (first|(with_reducible apply zz1)|((with_reducible apply zz2);rfl;intro K' hK';simp only [WB,simprocAttr,g1];(repeat (constructor;focus (clear hK';intros;simp_all;done)));(try (apply hK';clear hK' K')))|((with_reducible apply zz3);rfl;all_goals (intro h;try exact absurd h (by decide))))
   simp only [qf7,qd5,qa2,qd6,WB,simprocAttr]
theorem xq5 : doP endT endT = true ∧ qs6 endT endT = 0:=by decide +kernel
end Go.Proofs.YtgecnlcbdbaneaaDoor
/- Two get on just if the one's other end is below the other one: by trees. -/
namespace Go.Proofs.YtgecnlcbdbaneaaDoor
open Go.RowKit Go.Sw
open _root_.List renaming all_eq_true → za, mem_singleton → zb

def cS (g h : List Nd) (n : Nat) (p : Pc) : Prop:=qh7 n (dT n (obs h n p.b)) (obs g n p.a)
theorem sub_iff {a b : List Nd} (ha : Gd a) (hb : Gd b) : yw3 a b = true ↔ ∀ n,qh7 n (obs a n 0) (obs b n 0):=by
 unfold yw3
 rw [Option.isNone_iff_eq_none,why_iff ha.pos hb.pos ha.ok hb.ok]
theorem xa7 {a b : List Nd} (ha : Gd a) (hb : Gd b) {i j : Int} (hi : 0 ≤ i ∧ i < (a.length : Int)) (hj : 0 ≤ j ∧ j < (b.length : Int)) : yw3 (atP a i) (atP b j) = true ↔ ∀ n,qh7 n (obs a n i) (obs b n j):=by
 rw [sub_iff (ha.at hi) (hb.at hj)]
 have e1 : ∀ n,obs (atP a i) n 0 = obs a n i:=fun n=>by
  have:=xi5 ha.pos hi ha.ok n 0 (by decide) (by have:=ha.pos;omega)
  rw [this];unfold swI;rw [if_pos rfl]
 have e2 : ∀ n,obs (atP b j) n 0 = obs b n j:=fun n=>by
  have:=xi5 hb.pos hj hb.ok n 0 (by decide) (by have:=hb.pos;omega)
  rw [this];unfold swI;rw [if_pos rfl]
 simp only [e1,e2]
theorem yq1 (h : List Nd) (n : Nat) {to : List Int} {i : Nat} (hi : i < to.length) : kid ((to.map (obs h n)).map (dT n)) i = dT n (obs h n (to.getD i 0)):=by
 rw [yw1,kid_map hi]
theorem vs9 {g h : List Nd} (Hg : Gd g) (Hh : Gd h) {p : Pc} (a0 : 0 ≤ p.a) (a1 : p.a < (g.length : Int)) (b0 : 0 ≤ p.b) (b1 : p.b < (h.length : Int)) :
 (∀ n l,qq0 g h p = some l → (∀ s ∈ l,cS g h n s.2) → cS g h (n + 1) p) ∧ ((∀ n,cS g h n p) → ∃ l,qq0 g h p = some l ∧ ∀ s ∈ l, ∀ n,cS g h n s.2):=by
 have okX:=Hg.ok _ (qd0 a0 a1)
 have okY:=Hh.ok _ (qd0 b0 b1)
 have sx:=Hg.sh _ (qd0 a0 a1)
 have sy:=Hh.sh _ (qd0 b0 b1)
 have rX:=okX.ok.r
 have rY:=okY.ok.r
 have eS : ∀ n,cS g h (n + 1) p ↔ qh7 (n + 1) (.nd (qg4 (gAt h p.b).k) (gAt h p.b).so (gAt h p.b).ls (if (gAt h p.b).k = 4 ∨ (gAt h p.b).k = 5 then ((gAt h p.b).to.map (obs h n)).take 1 ++ (((gAt h p.b).to.map (obs h n)).drop 1).map (dT n) else ((gAt h p.b).to.map (obs h n)).map (dT n))) (.nd (gAt g p.a).k (gAt g p.a).so (gAt g p.a).ls ((gAt g p.a).to.map (obs g n))):=fun n=>Iff.rfl
 have eM : qq0 g h p = (if (gAt h p.b).k ≠ qg4 (gAt g p.a).k then none else if (gAt g p.a).so ≠ (gAt h p.b).so then none
  else if (gAt g p.a).k = 2 ∨ (gAt g p.a).k = 3 then some [(xi1,⟨(gAt g p.a).to.getD 0 0,(gAt h p.b).to.getD 0 0⟩)]
  else if (gAt g p.a).k = 4 ∨ (gAt g p.a).k = 5 then (if xd0 g h (gAt g p.a) (gAt h p.b) = true then some [(xi1,⟨(gAt g p.a).to.getD 1 0,(gAt h p.b).to.getD 1 0⟩)] else none)
  else if (gAt g p.a).k = 6 ∨ (gAt g p.a).k = 7 then (if (ym8 (gAt g p.a) (gAt h p.b)).all (fun l=>inL (inL2 (gAt g p.a) (gAt h p.b)) l) = true then some ((ym8 (gAt g p.a) (gAt h p.b)).map (lPc (gAt g p.a) (gAt h p.b))) else none)
  else some []):=rfl
 rw [eM]
 clear eM okX okY
 generalize gAt g p.a = X at *
 generalize gAt h p.b = Y at *
 have dk : qg4 Y.k = X.k ↔ Y.k = qg4 X.k:=⟨fun e=>by rw [← e,qs8],fun e=>by rw [e,qs8]⟩
 by_cases hk : Y.k = qg4 X.k
 rotate_left
 · rw [if_pos hk]
   refine ⟨fun n l hl=>(by cases hl),fun hs=>?_⟩
   have:=(eS 0).1 (hs 1)
   unfold qh7 at this
   exact absurd (dk.1 this.1) hk
 rw [if_neg (by simpa using hk)]
 have hk':=dk.2 hk
 by_cases hso : X.so = Y.so
 rotate_left
 · rw [if_pos hso]
   refine ⟨fun n l hl=>(by cases hl),fun hs=>?_⟩
   have:=(eS 0).1 (hs 1)
   unfold qh7 at this
   exact absurd this.2.1.symm hso
 rw [if_neg (by simpa using hso)]
 obtain ⟨xk,xso,xls,xto⟩:=X
 obtain ⟨yk,yso,yls,yto⟩:=Y
 simp only at *
 subst hso
 rcases sx with ⟨ek,es,el,em⟩ | ⟨ek,es,el,em⟩ | ⟨ek,es,el,em⟩ | ⟨ek,es,el,em⟩
 · -- the end
   subst ek
   have hy : yk = 1:=by rw [hk];decide
   subst hy
   rw [if_neg (by decide),if_neg (by decide),if_neg (by decide)]
   rcases sy with ⟨fk,fs,fl,fm⟩ | ⟨fk,fs,fl,fm⟩ | ⟨fk,fs,fl,fm⟩ | ⟨fk,fs,fl,fm⟩ <;> try omega
   subst el fl
   refine ⟨fun n l hl hs=>(eS n).2 ?_,fun hs=>⟨[],rfl,fun s hs=>by cases hs⟩⟩
   simp [qh7,qg4]
 · -- a value
   rw [if_pos ek]
   obtain ⟨x,rfl⟩:=len1 em
   have hy : yk = 2 ∨ yk = 3:=by rw [hk];rcases ek with rfl | rfl <;> decide
   rcases sy with ⟨fk,fs,fl,fm⟩ | ⟨fk,fs,fl,fm⟩ | ⟨fk,fs,fl,fm⟩ | ⟨fk,fs,fl,fm⟩ <;> try omega
   obtain ⟨y,rfl⟩:=len1 fm
   subst el fl
   have key : ∀ n,cS g h (n + 1) p ↔ cS g h n ⟨x,y⟩:=fun n=>by
    rw [eS]
    rcases ek with rfl | rfl
    · have : yk = 3:=by rw [hk];decide
      subst this
      simp [qh7,qg4,kid,cS]
    · have : yk = 2:=by rw [hk];decide
      subst this
      simp [qh7,qg4,kid,cS]
   refine ⟨fun n l hl hs=>by cases hl;exact (key n).2 (hs (xi1,⟨x,y⟩) (by simp)),fun hs=>⟨_,rfl,fun s hs2 n=>?_⟩⟩
   rw [zb] at hs2
   subst hs2
   exact (key n).1 (hs (n + 1))
 · -- a channel
   rw [if_neg (by omega),if_pos ek]
   obtain ⟨x,x2,rfl⟩:=len2 em
   have hy : yk = 4 ∨ yk = 5:=by rw [hk];rcases ek with rfl | rfl <;> decide
   rcases sy with ⟨fk,fs,fl,fm⟩ | ⟨fk,fs,fl,fm⟩ | ⟨fk,fs,fl,fm⟩ | ⟨fk,fs,fl,fm⟩ <;> try omega
   obtain ⟨y,y2,rfl⟩:=len2 fm
   subst el fl
   have rx:=rX x (by simp)
   have ry:=rY y (by simp)
   have key : ∀ n,cS g h (n + 1) p ↔ ((if xk = 5 then qh7 n (obs h n y) (obs g n x) else qh7 n (obs g n x) (obs h n y)) ∧ cS g h n ⟨x2,y2⟩):=fun n=>by
    rw [eS]
    rcases ek with rfl | rfl
    · have : yk = 5:=by rw [hk];decide
      subst this
      simp [qh7,qg4,kid,cS]
    · have : yk = 4:=by rw [hk];decide
      subst this
      simp [qh7,qg4,kid,cS]
   have car : xd0 g h ⟨xk,xso,[],[x,x2]⟩ ⟨yk,xso,[],[y,y2]⟩ = true ↔ ∀ n,(if xk = 5 then qh7 n (obs h n y) (obs g n x) else qh7 n (obs g n x) (obs h n y)):=by
    unfold xd0
    simp only [List.getD_cons_zero]
    by_cases h5 : xk = 5
    · simp only [if_pos h5]
      exact xa7 Hh Hg ry rx
    · simp only [if_neg h5]
      exact xa7 Hg Hh rx ry
   refine ⟨fun n l hl hs=>(key n).2 ?_,fun hs=>?_⟩
   · split at hl
     · rename_i hc
       cases hl
       exact ⟨car.1 hc n,hs (xi1,⟨x2,y2⟩) (by simp)⟩
     · cases hl
   · rw [if_pos (car.2 fun n=>((key n).1 (hs (n + 1))).1)]
     refine ⟨_,rfl,fun s hs2 n=>?_⟩
     rw [zb] at hs2
     subst hs2
     exact ((key n).1 (hs (n + 1))).2
 · -- a choice
   rw [if_neg (by omega),if_neg (by omega),if_pos ek]
   have hy : yk = 6 ∨ yk = 7:=by rw [hk];rcases ek with rfl | rfl <;> decide
   rcases sy with ⟨fk,fs,fl,fm⟩ | ⟨fk,fs,fl,fm⟩ | ⟨fk,fs,fl,fm⟩ | ⟨fk,fs,fl,fm⟩ <;> try omega
   have kl : ∀ (n : Nat) (l : ByteArray),l ∈ xls → l ∈ yls → (qh7 n (vg8 yls ((yto.map (obs h n)).map (dT n)) l) (vg8 xls (xto.map (obs g n)) l) ↔ cS g h n ⟨xto.getD (ixL l xls).toNat 0,yto.getD (ixL l yls).toNat 0⟩):=fun n l h1 h2=>by
    have q1:=qk8 h1
    have q2:=qk8 h2
    unfold vg8 cS
    rw [yq1 h n (by omega),kid_map (by omega)]
   rcases ek with rfl | rfl
   · have hy7 : yk = 7:=by rw [hk];decide
     subst hy7
     have key : ∀ n,cS g h (n + 1) p ↔ ∀ l ∈ xls,l ∈ yls ∧ qh7 n (vg8 yls ((yto.map (obs h n)).map (dT n)) l) (vg8 xls (xto.map (obs g n)) l):=fun n=>by
      rw [eS]
      simp [qh7,qg4]
     have eo : ym8 ⟨6,xso,xls,xto⟩ ⟨7,xso,yls,yto⟩ = xls:=rfl
     have ei : inL2 ⟨6,xso,xls,xto⟩ ⟨7,xso,yls,yto⟩ = yls:=rfl
     rw [eo,ei]
     refine ⟨fun n l hl hs=>(key n).2 fun l' hl'=>?_,fun hs=>?_⟩
     · split at hl
       · rename_i ha
         rw [za] at ha
         cases hl
         have hin:=ql5.1 (ha l' hl')
         exact ⟨hin,(kl n l' hl' hin).2 (hs _ (List.mem_map.2 ⟨l',hl',rfl⟩))⟩
       · cases hl
     · rw [if_pos (by rw [za];exact fun l hl=>ql5.2 ((key 0).1 (hs 1) l hl).1)]
       refine ⟨_,rfl,fun s hs2 n=>?_⟩
       obtain ⟨l,hl,rfl⟩:=List.mem_map.1 hs2
       have:=(key n).1 (hs (n + 1)) l hl
       exact (kl n l hl this.1).1 this.2
   · have hy6 : yk = 6:=by rw [hk];decide
     subst hy6
     have key : ∀ n,cS g h (n + 1) p ↔ ∀ l ∈ yls,l ∈ xls ∧ qh7 n (vg8 yls ((yto.map (obs h n)).map (dT n)) l) (vg8 xls (xto.map (obs g n)) l):=fun n=>by
      rw [eS]
      simp [qh7,qg4]
     have eo : ym8 ⟨7,xso,xls,xto⟩ ⟨6,xso,yls,yto⟩ = yls:=rfl
     have ei : inL2 ⟨7,xso,xls,xto⟩ ⟨6,xso,yls,yto⟩ = xls:=rfl
     rw [eo,ei]
     refine ⟨fun n l hl hs=>(key n).2 fun l' hl'=>?_,fun hs=>?_⟩
     · split at hl
       · rename_i ha
         rw [za] at ha
         cases hl
         have hin:=ql5.1 (ha l' hl')
         exact ⟨hin,(kl n l' hin hl').2 (hs _ (List.mem_map.2 ⟨l',hl',rfl⟩))⟩
       · cases hl
     · rw [if_pos (by rw [za];exact fun l hl=>ql5.2 ((key 0).1 (hs 1) l hl).1)]
       refine ⟨_,rfl,fun s hs2 n=>?_⟩
       obtain ⟨l,hl,rfl⟩:=List.mem_map.1 hs2
       have:=(key n).1 (hs (n + 1)) l hl
       exact (kl n l this.1 hl).1 this.2
end Go.Proofs.YtgecnlcbdbaneaaDoor
