import Derived.Test.YtoojgahbfpdhgaaHXc
set_option linter.unusedSimpArgs false
set_option linter.unusedVariables false
set_option linter.unusedSectionVars false
namespace W
open Go HL HL.X
set_option linter.unusedVariables false
theorem cl1 {x : HV} (h : Cl x) : ClL [x] := ClL.cons h ClL.nil
theorem cells_agg (cs : List HV) : (HV.agg cs).cells = cs := rfl
structure Ty where
  K : Int
  S : ByteArray
  N : Int
  L : List Ty
def Ty.enc : Ty → HV
  | ⟨K_, S_, N_, L_⟩ => .agg ([HV.int .i64 K_] ++ ([HV.str S_] ++ ([HV.int .i64 N_] ++ ([HV.sl (List.map Ty.enc L_)] ++ ([])))))
mutual
theorem Ty.cl : ∀ t : Ty, Cl (Ty.enc t)
  | ⟨K_, S_, N_, L_⟩ => by
    rw [Ty.enc]
    exact cl_of (clapp (cl1 (cl_int _ _)) (clapp (cl1 (cl_str _)) (clapp (cl1 (cl_int _ _)) (clapp (cl1 (cl_sl (Ty.cll L_))) (ClL.nil)))))
theorem Ty.cll : ∀ l : List Ty, ClL (List.map Ty.enc l)
  | [] => ClL.nil
  | x :: l => ClL.cons (Ty.cl x) (Ty.cll l)
end
structure Con where
  Name : ByteArray
  Args : List Ty
def Con.enc : Con → HV
  | ⟨Name_, Args_⟩ => .agg ([HV.str Name_] ++ ([HV.sl (List.map Ty.enc Args_)] ++ ([])))
mutual
theorem Con.cl : ∀ t : Con, Cl (Con.enc t)
  | ⟨Name_, Args_⟩ => by
    rw [Con.enc]
    exact cl_of (clapp (cl1 (cl_str _)) (clapp (cl1 (cl_sl (Ty.cll Args_))) (ClL.nil)))
theorem Con.cll : ∀ l : List Con, ClL (List.map Con.enc l)
  | [] => ClL.nil
  | x :: l => ClL.cons (Con.cl x) (Con.cll l)
end
structure Data where
  Name : ByteArray
  Cons : List Con
def Data.enc : Data → HV
  | ⟨Name_, Cons_⟩ => .agg ([HV.str Name_] ++ ([HV.sl (List.map Con.enc Cons_)] ++ ([])))
mutual
theorem Data.cl : ∀ t : Data, Cl (Data.enc t)
  | ⟨Name_, Cons_⟩ => by
    rw [Data.enc]
    exact cl_of (clapp (cl1 (cl_str _)) (clapp (cl1 (cl_sl (Con.cll Cons_))) (ClL.nil)))
theorem Data.cll : ∀ l : List Data, ClL (List.map Data.enc l)
  | [] => ClL.nil
  | x :: l => ClL.cons (Data.cl x) (Data.cll l)
end
mutual
inductive Exp where
  | mk (K : Int) (S : ByteArray) (N : Int) (L : List Exp) (Decs : List Dec) (Alts : List Alt)
inductive Dec where
  | mk (Name : ByteArray) (Pars : List ByteArray) (E : Exp) (Where : List Dec)
inductive Alt where
  | mk (Great : ByteArray) (Vars : List ByteArray) (E : Exp)
end
def Exp.K : Exp → Int
  | .mk y _ _ _ _ _ => y
def Exp.S : Exp → ByteArray
  | .mk _ y _ _ _ _ => y
def Exp.N : Exp → Int
  | .mk _ _ y _ _ _ => y
def Exp.L : Exp → List Exp
  | .mk _ _ _ y _ _ => y
def Exp.Decs : Exp → List Dec
  | .mk _ _ _ _ y _ => y
def Exp.Alts : Exp → List Alt
  | .mk _ _ _ _ _ y => y
def Dec.Name : Dec → ByteArray
  | .mk y _ _ _ => y
def Dec.Pars : Dec → List ByteArray
  | .mk _ y _ _ => y
def Dec.E : Dec → Exp
  | .mk _ _ y _ => y
def Dec.Where : Dec → List Dec
  | .mk _ _ _ y => y
def Alt.Great : Alt → ByteArray
  | .mk y _ _ => y
def Alt.Vars : Alt → List ByteArray
  | .mk _ y _ => y
def Alt.E : Alt → Exp
  | .mk _ _ y => y
mutual
def Exp.enc : Exp → HV
  | .mk K_ S_ N_ L_ Decs_ Alts_ => .agg ([HV.int .i64 K_] ++ ([HV.str S_] ++ ([HV.int .i64 N_] ++ ([HV.sl (List.map Exp.enc L_)] ++ ([HV.sl (List.map Dec.enc Decs_)] ++ ([HV.sl (List.map Alt.enc Alts_)] ++ ([])))))))
def Dec.enc : Dec → HV
  | .mk Name_ Pars_ E_ Where_ => .agg ([HV.str Name_] ++ ([HV.sl (List.map HV.str Pars_)] ++ ((Exp.enc E_).cells ++ ([HV.sl (List.map Dec.enc Where_)] ++ ([])))))
def Alt.enc : Alt → HV
  | .mk Great_ Vars_ E_ => .agg ([HV.str Great_] ++ ([HV.sl (List.map HV.str Vars_)] ++ ((Exp.enc E_).cells ++ ([]))))
end
mutual
theorem Exp.cl : ∀ t : Exp, Cl (Exp.enc t)
  | .mk K_ S_ N_ L_ Decs_ Alts_ => by
    rw [Exp.enc]
    exact cl_of (clapp (cl1 (cl_int _ _)) (clapp (cl1 (cl_str _)) (clapp (cl1 (cl_int _ _)) (clapp (cl1 (cl_sl (Exp.cll L_))) (clapp (cl1 (cl_sl (Dec.cll Decs_))) (clapp (cl1 (cl_sl (Alt.cll Alts_))) (ClL.nil)))))))
theorem Exp.cll : ∀ l : List Exp, ClL (List.map Exp.enc l)
  | [] => ClL.nil
  | x :: l => ClL.cons (Exp.cl x) (Exp.cll l)
theorem Dec.cl : ∀ t : Dec, Cl (Dec.enc t)
  | .mk Name_ Pars_ E_ Where_ => by
    rw [Dec.enc]
    exact cl_of (clapp (cl1 (cl_str _)) (clapp (cl1 (cl_sl (cll_of (fun _ => cl_str _) _))) (clapp (cl_cells (Exp.cl E_)) (clapp (cl1 (cl_sl (Dec.cll Where_))) (ClL.nil)))))
theorem Dec.cll : ∀ l : List Dec, ClL (List.map Dec.enc l)
  | [] => ClL.nil
  | x :: l => ClL.cons (Dec.cl x) (Dec.cll l)
theorem Alt.cl : ∀ t : Alt, Cl (Alt.enc t)
  | .mk Great_ Vars_ E_ => by
    rw [Alt.enc]
    exact cl_of (clapp (cl1 (cl_str _)) (clapp (cl1 (cl_sl (cll_of (fun _ => cl_str _) _))) (clapp (cl_cells (Exp.cl E_)) (ClL.nil))))
theorem Alt.cll : ∀ l : List Alt, ClL (List.map Alt.enc l)
  | [] => ClL.nil
  | x :: l => ClL.cons (Alt.cl x) (Alt.cll l)
end
structure Prog where
  Datas : List Data
  Decs : List Dec
def Prog.enc : Prog → HV
  | ⟨Datas_, Decs_⟩ => .agg ([HV.sl (List.map Data.enc Datas_)] ++ ([HV.sl (List.map Dec.enc Decs_)] ++ ([])))
mutual
theorem Prog.cl : ∀ t : Prog, Cl (Prog.enc t)
  | ⟨Datas_, Decs_⟩ => by
    rw [Prog.enc]
    exact cl_of (clapp (cl1 (cl_sl (Data.cll Datas_))) (clapp (cl1 (cl_sl (Dec.cll Decs_))) (ClL.nil)))
theorem Prog.cll : ∀ l : List Prog, ClL (List.map Prog.enc l)
  | [] => ClL.nil
  | x :: l => ClL.cons (Prog.cl x) (Prog.cll l)
end
def S : DSys where
  ty := fun
    | 0 => Ty
    | 1 => Con
    | 2 => Data
    | 3 => Exp
    | 4 => Dec
    | 5 => Alt
    | 6 => Prog
    | _ + 7 => Unit
  fl := fun
    | 0 => [.int .i64, .str, .int .i64, .ls (.st 0)]
    | 1 => [.str, .ls (.st 0)]
    | 2 => [.str, .ls (.st 1)]
    | 3 => [.int .i64, .str, .int .i64, .ls (.st 3), .ls (.st 4), .ls (.st 5)]
    | 4 => [.str, .ls .str, .st 3, .ls (.st 4)]
    | 5 => [.str, .ls .str, .st 3]
    | 6 => [.ls (.st 2), .ls (.st 4)]
    | _ + 7 => []
  sz := fun
    | 0 => 4
    | 1 => 2
    | 2 => 2
    | 3 => 6
    | 4 => 9
    | 5 => 8
    | 6 => 2
    | _ + 7 => 0
  get := fun
    | 0, x => (x.K, x.S, x.N, x.L, ())
    | 1, x => (x.Name, x.Args, ())
    | 2, x => (x.Name, x.Cons, ())
    | 3, x => (x.K, x.S, x.N, x.L, x.Decs, x.Alts, ())
    | 4, x => (x.Name, x.Pars, x.E, x.Where, ())
    | 5, x => (x.Great, x.Vars, x.E, ())
    | 6, x => (x.Datas, x.Decs, ())
    | _ + 7, _ => ()
  mks := fun
    | 0, h => Ty.mk h.1 h.2.1 h.2.2.1 h.2.2.2.1
    | 1, h => Con.mk h.1 h.2.1
    | 2, h => Data.mk h.1 h.2.1
    | 3, h => Exp.mk h.1 h.2.1 h.2.2.1 h.2.2.2.1 h.2.2.2.2.1 h.2.2.2.2.2.1
    | 4, h => Dec.mk h.1 h.2.1 h.2.2.1 h.2.2.2.1
    | 5, h => Alt.mk h.1 h.2.1 h.2.2.1
    | 6, h => Prog.mk h.1 h.2.1
    | _ + 7, _ => ()
  enc := fun
    | 0, x => x.enc
    | 1, x => x.enc
    | 2, x => x.enc
    | 3, x => x.enc
    | 4, x => x.enc
    | 5, x => x.enc
    | 6, x => x.enc
    | _ + 7, _ => .agg []
theorem Ty.len : ∀ t : Ty, (Ty.enc t).cells.length = 4 := fun t => by cases t; rw [Ty.enc]; simp [cells_agg]
theorem Con.len : ∀ t : Con, (Con.enc t).cells.length = 2 := fun t => by cases t; rw [Con.enc]; simp [cells_agg]
theorem Data.len : ∀ t : Data, (Data.enc t).cells.length = 2 := fun t => by cases t; rw [Data.enc]; simp [cells_agg]
theorem Exp.len : ∀ t : Exp, (Exp.enc t).cells.length = 6 := fun t => by cases t; rw [Exp.enc]; simp [cells_agg]
theorem Dec.len : ∀ t : Dec, (Dec.enc t).cells.length = 9 := fun t => by cases t; rw [Dec.enc]; simp [cells_agg, Exp.len]
theorem Alt.len : ∀ t : Alt, (Alt.enc t).cells.length = 8 := fun t => by cases t; rw [Alt.enc]; simp [cells_agg, Exp.len]
theorem Prog.len : ∀ t : Prog, (Prog.enc t).cells.length = 2 := fun t => by cases t; rw [Prog.enc]; simp [cells_agg]
theorem S_ok : S.Ok where
  enc := fun i x => by
    match i, x with
    | 0, x => exact (Ty.enc.eq_def x).trans (by cases x; rfl)
    | 1, x => exact (Con.enc.eq_def x).trans (by cases x; rfl)
    | 2, x => exact (Data.enc.eq_def x).trans (by cases x; rfl)
    | 3, x => exact (Exp.enc.eq_def x).trans (by cases x; rfl)
    | 4, x => exact (Dec.enc.eq_def x).trans (by cases x; rfl)
    | 5, x => exact (Alt.enc.eq_def x).trans (by cases x; rfl)
    | 6, x => exact (Prog.enc.eq_def x).trans (by cases x; rfl)
    | _ + 7, _ => rfl
  flat := fun i x => by
    match i, x with
    | 0, x => rfl
    | 1, x => rfl
    | 2, x => rfl
    | 3, x => rfl
    | 4, x => rfl
    | 5, x => rfl
    | 6, x => rfl
    | _ + 7, _ => rfl
  sz := fun i x => by
    match i, x with
    | 0, x => exact Ty.len x
    | 1, x => exact Con.len x
    | 2, x => exact Data.len x
    | 3, x => exact Exp.len x
    | 4, x => exact Dec.len x
    | 5, x => exact Alt.len x
    | 6, x => exact Prog.len x
    | _ + 7, _ => rfl
  gmk := fun i h => by
    match i, h with
    | 0, h => rfl
    | 1, h => rfl
    | 2, h => rfl
    | 3, h => rfl
    | 4, h => rfl
    | 5, h => rfl
    | 6, h => rfl
    | _ + 7, _ => rfl
  cl := fun i x => by
    match i, x with
    | 0, x => exact Ty.cl x
    | 1, x => exact Con.cl x
    | 2, x => exact Data.cl x
    | 3, x => exact Exp.cl x
    | 4, x => exact Dec.cl x
    | 5, x => exact Alt.cl x
    | 6, x => exact Prog.cl x
    | _ + 7, _ => exact cl_of ClL.nil
end W
