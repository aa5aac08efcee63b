/- Of a conversation of two each does what the other one does at the other end: plain. -/
import Derived.Test.YtdcplkefmpjppaaGreatDoorP11
import Derived.Test.YtdcplkefmpjppaaGreatDoorProg
import Derived.Test.YtdcplkefmpjppaaGreatDoorSwB
import Derived.Test.YtdcplkefmpjppaaGreatDoorTA
-- TYPESA
set_option linter.unusedVariables false
set_option linter.unusedSimpArgs false
namespace Go.Proofs.YtdcplkefmpjppaaGreatDoor.GG
open Go.RowKit Go.Sw

def dK (k : Int) : Int:=if k = 2 then 3 else if k = 3 then 2 else if k = 4 then 5 else if k = 5 then 4 else if k = 6 then 7 else if k = 7 then 6 else k
mutual
def dlL (t : ByteArray) : Lt → Lt
 | .mk k wi so nm ls l=>.mk (dK k) (if wi = noB then noB else t) so nm ls (dlLs t l)
def dlLs (t : ByteArray) : List Lt → List Lt
 | []=>[]
 | x :: l=>dlL t x :: dlLs t l
end
mutual
def Wt (r : ByteArray) : Lt → Prop
 | .mk k wi so nm ls l=>(wi = noB ∨ wi = r) ∧ Wts r l
def Wts (r : ByteArray) : List Lt → Prop
 | []=>True
 | x :: l=>Wt r x ∧ Wts r l
end
theorem Wts_iff {r : ByteArray} : ∀ {l : List Lt},Wts r l ↔ ∀ x ∈ l,Wt r x
 | []=>by simp [Wts]
 | x :: l=>by simp [Wts,Wts_iff (l:=l)]
theorem dK_var (k : Int) : (dK k = 9 ↔ k = 9) ∧ (dK k = 8 ↔ k = 8) ∧ (dK k = 1 ↔ k = 1):=by
 unfold dK
 (repeat' split) <;> omega
theorem kd_dl (t : ByteArray) (x : Lt) : (dlL t x).kd = dK x.kd:=by
 obtain ⟨k,wi,so,nm,ls,l⟩:=x
 rw [dlL];rfl
theorem nm_dl (t : ByteArray) (x : Lt) : (dlL t x).nm = x.nm:=by
 obtain ⟨k,wi,so,nm,ls,l⟩:=x
 rw [dlL];rfl
theorem innL_dl (t : ByteArray) : ∀ (n : Nat) (x : Lt),x.size ≤ n → innL (dlL t x) = dlL t (innL x)
 | 0,x,h=>by have:=x.size_pos;omega
 | n + 1,.mk k wi so nm ls l,h=>by
  rw [dlL,innL,innL]
  by_cases h8 : k = 8
  · subst h8
    rw [if_pos (by rfl),if_pos rfl]
    cases l with
    | nil=>simp only [dlLs,innLs,dlL]
    | cons x l =>
     simp only [dlLs,innLs]
     exact innL_dl t n x (by simp only [Lt.size,Lt.sizes] at h;omega)
  · rw [if_neg (fun e=>h8 ((dK_var k).2.1.1 e)),if_neg h8,dlL]
theorem recL_dl {t : ByteArray} (nm : ByteArray) (x : Lt) : recL nm (dlL t x) = dlL t (recL nm x):=by
 unfold recL
 rw [kd_dl,innL_dl t _ x (Nat.le_refl _),kd_dl,nm_dl]
 by_cases h1 : x.kd = 1
 · rw [if_pos ((dK_var _).2.2.2 h1),if_pos h1]
 rw [if_neg (fun e=>h1 ((dK_var _).2.2.1 e)),if_neg h1]
 by_cases h2 : (innL x).kd = 9
 · rw [if_pos ((dK_var _).1.2 h2),if_pos h2]
   by_cases h3 : (innL x).nm.toList = nm.toList
   · rw [if_pos h3,if_pos h3];rfl
   · rw [if_neg h3,if_neg h3]
 · rw [if_neg (fun e=>h2 ((dK_var _).1.1 e)),if_neg h2]
   rfl
theorem strip_inn : ∀ {x : Lt},OkL x → stripLK x = (innL x).kd:=fun {x} h=>by
 induction h with
 | nil=>rfl
 | pass k so wi x hk hw h1 h3 hx ih=>rw [strip_not (by omega),innL,if_neg (by omega)];rfl
 | pick k wi ls l hk hw hl hn hx ih=>rw [strip_not (by omega),innL,if_neg (by omega)];rfl
 | bind nm x hn hx ih=>rw [strip_one,ih,innL,if_pos rfl];rfl
 | var nm hn=>rfl
structure Two (r0 r1 : ByteArray) (g : Gt) (b : List ByteArray) (a : Lt) : Prop where
 one : ofP r0 g = some a
 two : ofP r1 g = some (dlL r0 a)
 w : Wt r1 a
 cl : clB a b = true
 vr : (innL a).kd = 9 → ∃ m,a = varL m
theorem com_two {r0 r1 : ByteArray} (hne : r0 ≠ r1) (hn1 : r1 ≠ noB) {k : Int} (hk : k = 2 ∨ k = 6) {fr to : ByteArray} (hr : rolesB true fr to = true) (hf : fr = r0 ∨ fr = r1) (ht : to = r0 ∨ to = r1) {so : Int} {ls : List ByteArray} {l : List Gt} {b : List ByteArray}
 (ih : ∀ x ∈ l, ∃ a,Two r0 r1 x b a) : ∃ a,Two r0 r1 (.mk k fr to so noB ls l) b a:=by
 have all : ∀ l : List Gt,(∀ x ∈ l, ∃ a,Two r0 r1 x b a) → ∃ xs : List Lt,ofPs r0 l = some xs ∧ ofPs r1 l = some (dlLs r0 xs) ∧ Wts r1 xs ∧ ∀ x ∈ xs,clB x b = true:=by
  intro l
  induction l with
  | nil=>intro _;exact ⟨[],rfl,rfl,trivial,fun x hx=>by cases hx⟩
  | cons y l ih =>
   intro h
   obtain ⟨xs,h1,h2,h3,h4⟩:=ih fun x hx=>h x (by simp [hx])
   obtain ⟨a,ha⟩:=h y (by simp)
   refine ⟨a :: xs,?_,?_,⟨ha.w,h3⟩,fun x hx=>?_⟩
   · rw [ofPs,ha.one,h1]
   · rw [ofPs,ha.two,h2];rfl
   · rcases List.mem_cons.1 hx with rfl | hx
     · exact ha.cl
     · exact h4 x hx
 obtain ⟨xs,h1,h2,h3,h4⟩:=all l ih
 have hft : fr ≠ to:=by
  intro e
  subst e
  simp [rolesB] at hr
 have k1 : k ≠ 1:=by omega
 have k9 : k ≠ 9:=by omega
 have k8 : k ≠ 8:=by omega
 have e1 : ofP r0 (.mk k fr to so noB ls l) = comL r0 k fr to so ls xs:=by rw [ofP_eq,if_neg k1,if_neg k9,if_neg k8,h1]
 have e2 : ofP r1 (.mk k fr to so noB ls l) = comL r1 k fr to so ls (dlLs r0 xs):=by rw [ofP_eq,if_neg k1,if_neg k9,if_neg k8,h2]
 have cl : ∀ (k' : Int) (wi : ByteArray),k' ≠ 9 → k' ≠ 8 → clB (.mk k' wi so noB ls xs) b = true:=fun k' wi q9 q8=>(clB_node q9 q8).2 h4
 have ne : ∀ {x y : ByteArray},x ≠ y → ¬ x.toList = y.toList:=fun h e=>h (toList_inj e)
 have dk1 : dK k = k + 1:=by rcases hk with rfl | rfl <;> rfl
 have dk2 : dK (k + 1) = k:=by rcases hk with rfl | rfl <;> rfl
 rcases hf with rfl | rfl
 · obtain rfl : to = r1 := by rcases ht with e | e; · exact absurd e.symm hft
                              · exact e
   refine ⟨.mk k to so noB ls xs,?_,?_,⟨.inr rfl,h3⟩,cl _ _ k9 k8,fun e=>?_⟩
   · rw [e1,comL,if_pos (.inl rfl),if_neg (ne hne)]
   · rw [e2,comL,if_pos (.inr rfl),if_pos rfl,dlL,dk1,if_neg hn1]
   · rw [innL,if_neg k8] at e;exact absurd e k9
 · obtain rfl : to = r0 := by rcases ht with e | e; · exact e
                              · exact absurd e.symm hft
   refine ⟨.mk (k + 1) fr so noB ls xs,?_,?_,⟨.inr rfl,h3⟩,cl _ _ (by omega) (by omega),fun e=>?_⟩
   · rw [e1,comL,if_pos (.inr rfl),if_pos rfl]
   · rw [e2,comL,if_pos (.inl rfl),if_neg (ne hft),dlL,dk2,if_neg hn1]
   · rw [innL,if_neg (by omega)] at e;exact absurd e (by show ¬ (k + 1 = 9);omega)
theorem two_of {r0 r1 : ByteArray} (hne : r0 ≠ r1) (hn1 : r1 ≠ noB) {g : Gt} (hg : OkG g) : (∀ s ∈ rolesL g,s = r0 ∨ s = r1) → ∀ (b : List ByteArray) (left : Int),0 ≤ left → (gchk g b left).1 = 0 → ∃ a,Two r0 r1 g b a:=by
 induction hg with
 | nil =>
  intro _ b left _ _
  exact ⟨endL,by rw [ofP_eq,if_pos rfl],by rw [ofP_eq,if_pos rfl];rfl,⟨.inl rfl,trivial⟩,rfl,fun e=>by cases e⟩
 | send fr to so x hr h1 h3 hx ih =>
  intro hro b left h0 hc
  obtain ⟨r1',r2'⟩:=roles_two hr
  have hn:=(gchk_node h0 hc).2
  rw [if_neg (by decide)] at hn
  simp only [rolesL,role_some r1',rolesLs] at hro
  refine com_two hne hn1 (.inl rfl) hr (hro fr (by simp)) (hro to (by simp)) fun y hy=>?_
  obtain ⟨lf,q1,q2⟩:=hn y hy
  obtain rfl : y = x:=by simpa using hy
  exact ih (fun s hs=>hro s (by simp [hs])) b lf q1 q2
 | pick fr to ls l hr hl hn' hx ih =>
  intro hro b left h0 hc
  obtain ⟨r1',r2'⟩:=roles_two hr
  have hn:=(gchk_node h0 hc).2
  rw [if_neg (by decide)] at hn
  simp only [rolesL,role_some r1',rolesLs_flat] at hro
  refine com_two hne hn1 (.inr rfl) hr (hro fr (by simp)) (hro to (by simp)) fun y hy=>?_
  obtain ⟨lf,q1,q2⟩:=hn y hy
  exact ih y hy (fun s hs=>hro s (by simp;exact .inr (.inr ⟨y,hy,hs⟩))) b lf q1 q2
 | bind nm x hnm hx ih =>
  intro hro b left h0 hc
  have hn:=(gchk_node h0 hc).2
  rw [if_pos rfl] at hn
  obtain ⟨lf,q1,q2⟩:=hn x (by simp)
  obtain ⟨a,ha⟩:=ih (fun s hs=>hro s (by simp [rolesL,rolesLs,empty_rfl,hs])) (b ++ [nm]) lf q1 q2
  have oa:=(ofP_ok hx a ha.one).1
  refine ⟨recL nm a,?_,?_,?_,?_,fun e=>?_⟩
  · rw [ofP_eq,if_neg (by decide),if_neg (by decide),if_pos rfl,ofPF,ha.one]
  · rw [ofP_eq,if_neg (by decide),if_neg (by decide),if_pos rfl,ofPF,ha.two]
    simp only [recL_dl]
  · unfold recL
    split
    · exact ha.w
    · split
      · split
        · exact ⟨.inl rfl,trivial⟩
        · exact ha.w
      · exact ⟨.inl rfl,ha.w,trivial⟩
  · have hcl:=ha.cl
    unfold recL
    split
    · rename_i e1
      cases oa with
      | nil=>rfl
      | pass k so wi x hk=>have : k = 1:=e1;omega
      | pick k wi ls l hk=>have : k = 1:=e1;omega
      | bind=>cases e1
      | var=>cases e1
    · split
      · rename_i e9
        obtain ⟨m,rfl⟩:=ha.vr e9
        split
        · rfl
        · rename_i hm
          have : inL (b ++ [nm]) m = true:=by simpa [varL,clB] using hcl
          have hm2:=inL_iff.1 this
          show inL b m = true
          rw [inL_iff]
          rcases List.mem_append.1 hm2 with q | q
          · exact q
          · exact absurd (by rw [show m = nm by simpa using q];rfl) hm
      · rename_i e9
        refine clB_bind.2 ⟨?_,hcl⟩
        rw [strip_inn oa]
        exact e9
  · unfold recL at e ⊢
    by_cases h1 : a.kd = 1
    · rw [if_pos h1] at e ⊢;exact ha.vr e
    · rw [if_neg h1] at e ⊢
      by_cases h2 : (innL a).kd = 9
      · rw [if_pos h2] at e ⊢
        by_cases h3 : (innL a).nm.toList = nm.toList
        · rw [if_pos h3] at e;cases e
        · rw [if_neg h3] at e ⊢;exact ha.vr e
      · rw [if_neg h2] at e
        rw [innL,if_pos rfl,innLs] at e
        exact absurd e h2
 | var nm hn =>
  intro _ b left h0 hc
  refine ⟨varL nm,by rw [ofP_eq,if_neg (by decide),if_pos rfl],by rw [ofP_eq,if_neg (by decide),if_pos rfl];rfl,⟨.inl rfl,trivial⟩,?_,fun _=>⟨nm,rfl⟩⟩
  show inL b nm = true
  exact inL_iff.2 ((gchk_node h0 hc).1 rfl)
mutual
def kLT : Lt → Tp
 | .mk k wi so nm ls l=>.mk k so nm ls (kLTs l)
def kLTs : List Lt → List Tp
 | []=>[]
 | x :: l=>kLT x :: kLTs l
end
end Go.Proofs.YtdcplkefmpjppaaGreatDoor.GG
/- Facts on the types that the walks meet: sizes, zeros, fields, elements. -/
namespace Go.Proofs.YtdcplkefmpjppaaGreatDoor
open Go.Sw
set_option maxRecDepth 100000

theorem sz78 : szOf Tryz.prog 78 = some 1:=by kernel_rfl
theorem ag78 : aggB Tryz.prog 78 = some false:=by kernel_rfl
theorem zr78 : zeroS Tryz.prog 78 = some (.d (.v (.pointer none))):=by kernel_rfl
theorem sz124 : szOf Tryz.prog 124 = some 6:=by kernel_rfl
theorem ag124 : aggB Tryz.prog 124 = some true:=by kernel_rfl
theorem zr124 : zeroS Tryz.prog 124 = some (.agg [.d (.v (.int .i64 0)),.d (.v (.int .i64 0)),.d (.v (.string ⟨#[]⟩)),.nil,.nil,.nil]):=by kernel_rfl
theorem pl124 : plcs Tryz.prog 124 = some [(0,5),(5,1)]:=by kernel_rfl
theorem fl124_0 : fldOf Tryz.prog 124 0 = some (0,5):=by kernel_rfl
theorem pt124_0 : partOf Tryz.prog 124 0 = some (0,5):=by kernel_rfl
theorem fl124_1 : fldOf Tryz.prog 124 1 = some (5,1):=by kernel_rfl
theorem pt124_1 : partOf Tryz.prog 124 1 = some (5,1):=by kernel_rfl
theorem sz125 : szOf Tryz.prog 125 = some 1:=by kernel_rfl
theorem ag125 : aggB Tryz.prog 125 = some false:=by kernel_rfl
theorem zr125 : zeroS Tryz.prog 125 = some (.nil):=by kernel_rfl
theorem el125 : elemSz Tryz.prog 125 = some 6:=by kernel_rfl
theorem un125 : Tryz.prog.underlying 125 = some (.slice 124):=by kernel_rfl
theorem by125 : elemBy Tryz.prog 125 = some 104:=by kernel_rfl
theorem ez125 : elemZ Tryz.prog 125 = true:=by kernel_rfl
theorem sz136 : szOf Tryz.prog 136 = some 1:=by kernel_rfl
theorem ag136 : aggB Tryz.prog 136 = some false:=by kernel_rfl
theorem zr136 : zeroS Tryz.prog 136 = some (.d (.v .nilFunc)):=by kernel_rfl
theorem sz141 : szOf Tryz.prog 141 = some 1:=by kernel_rfl
theorem ag141 : aggB Tryz.prog 141 = some false:=by kernel_rfl
theorem zr141 : zeroS Tryz.prog 141 = some (.d (.v (.pointer none))):=by kernel_rfl
open And renaming intro → ai
theorem TBS : tyOf (ai sz78 (ai ag78 (ai zr78 (ai sz124 (ai ag124 (ai zr124 (ai pl124 (ai fl124_0 (ai pt124_0 (ai fl124_1 (ai pt124_1 (ai sz125 (ai ag125 (ai zr125 (ai el125 (ai un125 (ai by125 (ai ez125 (ai sz136 (ai ag136 (ai zr136 (ai sz141 (ai ag141 zr141))))))))))))))))))))))) := tyOk _
theorem WB : tyOf (And.intro UN (And.intro LM (And.intro TAS (TBS)))):=tyOk _
end Go.Proofs.YtdcplkefmpjppaaGreatDoor
