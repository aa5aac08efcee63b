/- global.write; a symbolic walk. -/
-- TYPESA
import Derived.Test.YtlnmkdbcdcknjaaDoorR2
import Derived.Test.YtlnmkdbcdcknjaaDoorGP
import Derived.Test.YtlnmkdbcdcknjaaDoorT7
set_option linter.unusedVariables false
set_option linter.unusedSimpArgs false
namespace Go.Proofs.YtlnmkdbcdcknjaaDoor.GG
open Go.RowKit Go.Sw

def wrGK (k : Int) (fr to : ByteArray) (so : Int) (nm : ByteArray) (ls ws : List ByteArray) : ByteArray :=
 if k = 1 then ⟨#[101,110,100]⟩
 else if k = 2 then fr ++ ⟨#[62]⟩ ++ to ++ ⟨#[58]⟩ ++ sortW so ++ ⟨#[46]⟩ ++ wr0 ws 0
 else if k = 6 then fr ++ ⟨#[62]⟩ ++ to ++ ⟨#[123]⟩ ++ joinB (List.zipWith itemB ls ws) ++ ⟨#[125]⟩
 else if k = 8 then ⟨#[114,101,99,32]⟩ ++ nm ++ ⟨#[46]⟩ ++ wr0 ws 0
 else nm
mutual
def wrG : Gt → ByteArray
 | .mk k fr to so nm ls l=>wrGK k fr to so nm ls (wrGs l)
def wrGs : List Gt → List ByteArray
 | []=>[]
 | x :: l=>wrG x :: wrGs l
end
theorem wrGs_map : ∀ l,wrGs l = l.map wrG
 | []=>rfl
 | x :: l=>by simp [wrGs,wrGs_map l]
theorem wg_end : wrG (.mk 1 noB noB 0 noB [] []) = ⟨#[101,110,100]⟩:=by simp [wrG,wrGK]
theorem wg_send {fr to : ByteArray} {so : Int} {x : Gt} : wrG (.mk 2 fr to so noB [] [x]) = fr ++ ⟨#[62]⟩ ++ to ++ ⟨#[58]⟩ ++ sortW so ++ ⟨#[46]⟩ ++ wrG x:=by simp [wrG,wrGs,wrGK,wr0]
theorem wg_pick {fr to : ByteArray} {ls : List ByteArray} {l : List Gt} : wrG (.mk 6 fr to 0 noB ls l) = fr ++ ⟨#[62]⟩ ++ to ++ ⟨#[123]⟩ ++ joinB (List.zipWith itemB ls (wrGs l)) ++ ⟨#[125]⟩:=by simp [wrG,wrGK]
theorem wg_bind {nm : ByteArray} {x : Gt} : wrG (.mk 8 noB noB 0 nm [] [x]) = ⟨#[114,101,99,32]⟩ ++ nm ++ ⟨#[46]⟩ ++ wrG x:=by simp [wrG,wrGs,wrGK,wr0]
theorem wg_var {nm : ByteArray} : wrG (.mk 9 noB noB 0 nm [] []) = nm:=by simp [wrG,wrGK]
theorem wgs_sum : ∀ (l : List Gt),(∀ x ∈ l,(wrG x).size ≤ 70 * x.size) → ((wrGs l).map fun x=>x.size).sum ≤ 70 * Gt.sizes l
 | [],h=>by simp [wrGs]
 | x :: l,h=>by
  have ih:=wgs_sum l fun x hx=>h x (by simp [hx])
  have h1:=h x (by simp)
  simp only [wrGs,List.map_cons,List.sum_cons,Gt.sizes]
  omega
theorem wg_len {x : Gt} (h : OkG x) : (wrG x).size ≤ 70 * x.size:=by
 induction h with
 | nil=>rw [wg_end];decide
 | send fr to so x hr h1 h3 hx ih =>
  have r:=roles_two hr
  have z1:=role_size r.1
  have z2:=role_size r.2
  have z3:=(sortW_at h1 h3).2.1
  have e1 : (⟨#[62]⟩ : ByteArray).size = 1:=rfl
  have e2 : (⟨#[58]⟩ : ByteArray).size = 1:=rfl
  have e3 : (⟨#[46]⟩ : ByteArray).size = 1:=rfl
  rw [wg_send]
  simp only [ByteArray.size_append,e1,e2,e3,Gt.size,Gt.sizes]
  omega
 | pick fr to ls l hr hl hn h ih =>
  have r:=roles_two hr
  have z1:=role_size r.1
  have z2:=role_size r.2
  have e1 : (⟨#[62]⟩ : ByteArray).size = 1:=rfl
  have e2 : (⟨#[123]⟩ : ByteArray).size = 1:=rfl
  have e3 : (⟨#[125]⟩ : ByteArray).size = 1:=rfl
  have h1:=join_size (List.zipWith itemB ls (wrGs l))
  have h2:=zip_sum ls (wrGs l) fun s hs=>(name_size (labels_names hl s hs)).1
  have h3:=wgs_sum l ih
  have h6:=labels_len hl
  rw [wg_pick]
  simp only [ByteArray.size_append,e1,e2,e3,Gt.size]
  have : ls.length ≤ Gt.sizes l ∨ ls.length ≤ 6:=.inr h6
  omega
 | bind nm x hn hx ih =>
  have z:=(name_size (var_name hn)).1
  have e1 : (⟨#[114,101,99,32]⟩ : ByteArray).size = 4:=rfl
  have e2 : (⟨#[46]⟩ : ByteArray).size = 1:=rfl
  rw [wg_bind]
  simp only [ByteArray.size_append,e1,e2,Gt.size,Gt.sizes]
  omega
 | var nm hn =>
  have z:=(name_size (var_name hn)).1
  rw [wg_var]
  simp only [Gt.size,Gt.sizes]
  omega
end Go.Proofs.YtlnmkdbcdcknjaaDoor.GG
