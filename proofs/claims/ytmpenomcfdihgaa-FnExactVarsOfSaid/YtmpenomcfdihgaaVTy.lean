import Derived.Test.YtmpenomcfdihgaaHXc
set_option linter.unusedSimpArgs false
set_option linter.unusedVariables false
set_option linter.unusedSectionVars false
namespace W
open Go HL HL.X
set_option linter.unusedVariables false
theorem cl1 {x : HV} (h : Cl x) : ClL [x] := ClL.cons h ClL.nil
theorem cells_agg (cs : List HV) : (HV.agg cs).cells = cs := rfl
structure Ty where
  K : Int
  S : ByteArray
  N : Int
  L : List Ty
def Ty.enc : Ty → HV
  | ⟨K_, S_, N_, L_⟩ => .agg ([HV.int .i64 K_] ++ ([HV.str S_] ++ ([HV.int .i64 N_] ++ ([HV.sl (List.map Ty.enc L_)] ++ ([])))))
mutual
theorem Ty.cl : ∀ t : Ty, Cl (Ty.enc t)
  | ⟨K_, S_, N_, L_⟩ => by
    rw [Ty.enc]
    exact cl_of (clapp (cl1 (cl_int _ _)) (clapp (cl1 (cl_str _)) (clapp (cl1 (cl_int _ _)) (clapp (cl1 (cl_sl (Ty.cll L_))) (ClL.nil)))))
theorem Ty.cll : ∀ l : List Ty, ClL (List.map Ty.enc l)
  | [] => ClL.nil
  | x :: l => ClL.cons (Ty.cl x) (Ty.cll l)
end
def S : DSys where
  ty := fun
    | 0 => Ty
    | _ + 1 => Unit
  fl := fun
    | 0 => [.int .i64, .str, .int .i64, .ls (.st 0)]
    | _ + 1 => []
  sz := fun
    | 0 => 4
    | _ + 1 => 0
  get := fun
    | 0, x => (x.K, x.S, x.N, x.L, ())
    | _ + 1, _ => ()
  mks := fun
    | 0, h => Ty.mk h.1 h.2.1 h.2.2.1 h.2.2.2.1
    | _ + 1, _ => ()
  enc := fun
    | 0, x => x.enc
    | _ + 1, _ => .agg []
theorem Ty.len : ∀ t : Ty, (Ty.enc t).cells.length = 4 := fun t => by cases t; rw [Ty.enc]; simp [cells_agg]
theorem S_ok : S.Ok where
  enc := fun i x => by
    match i, x with
    | 0, x => exact (Ty.enc.eq_def x).trans (by cases x; rfl)
    | _ + 1, _ => rfl
  flat := fun i x => by
    match i, x with
    | 0, x => rfl
    | _ + 1, _ => rfl
  sz := fun i x => by
    match i, x with
    | 0, x => exact Ty.len x
    | _ + 1, _ => rfl
  gmk := fun i h => by
    match i, h with
    | 0, h => rfl
    | _ + 1, _ => rfl
  cl := fun i x => by
    match i, x with
    | 0, x => exact Ty.cl x
    | _ + 1, _ => exact cl_of ClL.nil
end W
