/- edit: the normal edit of origins, in plain Lean. -/
import Derived.Test.YtemlbjpefomboaaRc
namespace Go.Proofs.Ytemlbjpefomboaa
open Go.RowKit Go.Shelf Go.Proofs.YtemlbjpefomboaaW.PrintWords Go.Proofs.YtemlbjpefomboaaW.PrintLast Go.Proofs.YtemlbjpefomboaaW.PrintMore Go.Proofs.Ytemlbjpefomboaa.Pr
set_option linter.unusedVariables false
set_option linter.unusedSimpArgs false
/-- What has been made so far: the steps that are done, the one that is begun, the bytes, the place that goes on. -/
structure TS where
  dn : List S80
  cu : Option S80
  d : List Int
  x : List Int
  a : Int
def TS.st (t : TS) : List S80 := t.dn ++ t.cu.toList
def tk (t : TS) (o : S94) : Option TS :=
  if o.f0 = true then
    match t.cu with
    | none => if o.f1 = t.a then some ⟨t.dn, some ⟨1, 0, 0⟩, t.d ++ [o.f2], t.x, wrap64 (o.f1 + 1)⟩
              else if may ⟨0, 0, wrap64 (o.f1 - t.a)⟩ = true then some ⟨t.dn ++ [⟨0, 0, wrap64 (o.f1 - t.a)⟩], some ⟨1, 0, 0⟩, t.d ++ [o.f2], t.x, wrap64 (o.f1 + 1)⟩ else none
    | some s => if o.f1 = t.a ∧ s.f1 = 0 then some ⟨t.dn, some ⟨s.f0 + 1, 0, 0⟩, t.d ++ [o.f2], t.x, wrap64 (o.f1 + 1)⟩
              else if may ⟨s.f0, s.f1, wrap64 (o.f1 - t.a)⟩ = true then some ⟨t.dn ++ [⟨s.f0, s.f1, wrap64 (o.f1 - t.a)⟩], some ⟨1, 0, 0⟩, t.d ++ [o.f2], t.x, wrap64 (o.f1 + 1)⟩ else none
  else
    match t.cu with
    | none => some ⟨t.dn, some ⟨0, 1, 0⟩, t.d, t.x ++ [o.f2], t.a⟩
    | some s => some ⟨t.dn, some ⟨s.f0, s.f1 + 1, 0⟩, t.d, t.x ++ [o.f2], t.a⟩
def tks : List S94 → TS → Option TS
  | [], t => some t
  | o :: l, t => (tk t o).bind (tks l)
def nrm (r : Option TS) : List S80 × List Int × List Int × Int :=
  match r with
  | none => ([], [], [], 160)
  | some t => (t.st, t.d, t.x, 0)
def ts0 : TS := ⟨[], none, [], [], 0⟩
def normOf (L : List S94) : List S80 × List Int × List Int × Int := nrm (tks L ts0)
theorem w01 : wrap64 (0 + 1) = 1 := by unfold wrap64; omega
theorem rdd (L : List S94) (i : Nat) (h : i < L.length) : L.drop i = rd_T94 L i :: L.drop (i + 1) := by
  have hg : rd_T94 L i = L[i] := by simp [rd_T94, List.getD_eq_getElem?_getD, List.getElem?_eq_getElem h]
  rw [List.drop_eq_getElem_cons h, hg]
end Go.Proofs.Ytemlbjpefomboaa
