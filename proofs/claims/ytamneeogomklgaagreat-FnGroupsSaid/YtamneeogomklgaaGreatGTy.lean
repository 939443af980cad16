import Derived.Test.YtamneeogomklgaaGreatHXS
set_option linter.unusedSimpArgs false
set_option linter.unusedVariables false
set_option linter.unusedSectionVars false
namespace W
open Go HL HL.X
set_option linter.unusedVariables false
theorem cl1 {x : HV} (h : Cl x) : ClL [x] := ClL.cons h ClL.nil
theorem cells_agg (cs : List HV) : (HV.agg cs).cells = cs := rfl
structure spec_l1Cur where
  b : List Int
  i : Int
  h : Int
def spec_l1Cur.enc : spec_l1Cur → HV
  | ⟨b_, i_, h_⟩ => .agg ([HV.sl (List.map (HV.int .u8) b_)] ++ ([HV.int .i64 i_] ++ ([HV.int .i64 h_] ++ ([]))))
mutual
theorem spec_l1Cur.cl : ∀ t : spec_l1Cur, Cl (spec_l1Cur.enc t)
  | ⟨b_, i_, h_⟩ => by
    rw [spec_l1Cur.enc]
    exact cl_of (clapp (cl1 (cl_sl (cll_of (fun _ => cl_int _ _) _))) (clapp (cl1 (cl_int _ _)) (clapp (cl1 (cl_int _ _)) (ClL.nil))))
theorem spec_l1Cur.cll : ∀ l : List spec_l1Cur, ClL (List.map spec_l1Cur.enc l)
  | [] => ClL.nil
  | x :: l => ClL.cons (spec_l1Cur.cl x) (spec_l1Cur.cll l)
end
structure Ty where
  K : Int
  S : ByteArray
  N : Int
  L : List Ty
def Ty.enc : Ty → HV
  | ⟨K_, S_, N_, L_⟩ => .agg ([HV.int .i64 K_] ++ ([HV.str S_] ++ ([HV.int .i64 N_] ++ ([HV.sl (List.map Ty.enc L_)] ++ ([])))))
mutual
theorem Ty.cl : ∀ t : Ty, Cl (Ty.enc t)
  | ⟨K_, S_, N_, L_⟩ => by
    rw [Ty.enc]
    exact cl_of (clapp (cl1 (cl_int _ _)) (clapp (cl1 (cl_str _)) (clapp (cl1 (cl_int _ _)) (clapp (cl1 (cl_sl (Ty.cll L_))) (ClL.nil)))))
theorem Ty.cll : ∀ l : List Ty, ClL (List.map Ty.enc l)
  | [] => ClL.nil
  | x :: l => ClL.cons (Ty.cl x) (Ty.cll l)
end
structure Con where
  Name : ByteArray
  Args : List Ty
def Con.enc : Con → HV
  | ⟨Name_, Args_⟩ => .agg ([HV.str Name_] ++ ([HV.sl (List.map Ty.enc Args_)] ++ ([])))
mutual
theorem Con.cl : ∀ t : Con, Cl (Con.enc t)
  | ⟨Name_, Args_⟩ => by
    rw [Con.enc]
    exact cl_of (clapp (cl1 (cl_str _)) (clapp (cl1 (cl_sl (Ty.cll Args_))) (ClL.nil)))
theorem Con.cll : ∀ l : List Con, ClL (List.map Con.enc l)
  | [] => ClL.nil
  | x :: l => ClL.cons (Con.cl x) (Con.cll l)
end
structure Data where
  Name : ByteArray
  Cons : List Con
def Data.enc : Data → HV
  | ⟨Name_, Cons_⟩ => .agg ([HV.str Name_] ++ ([HV.sl (List.map Con.enc Cons_)] ++ ([])))
mutual
theorem Data.cl : ∀ t : Data, Cl (Data.enc t)
  | ⟨Name_, Cons_⟩ => by
    rw [Data.enc]
    exact cl_of (clapp (cl1 (cl_str _)) (clapp (cl1 (cl_sl (Con.cll Cons_))) (ClL.nil)))
theorem Data.cll : ∀ l : List Data, ClL (List.map Data.enc l)
  | [] => ClL.nil
  | x :: l => ClL.cons (Data.cl x) (Data.cll l)
end
mutual
inductive Exp where
  | mk (K : Int) (S : ByteArray) (N : Int) (L : List Exp) (Decs : List Dec) (Alts : List Alt)
inductive Dec where
  | mk (Name : ByteArray) (Pars : List ByteArray) (E : Exp) (Where : List Dec)
inductive Alt where
  | mk (Great : ByteArray) (Vars : List ByteArray) (E : Exp)
end
def Exp.K : Exp → Int
  | .mk y _ _ _ _ _ => y
def Exp.S : Exp → ByteArray
  | .mk _ y _ _ _ _ => y
def Exp.N : Exp → Int
  | .mk _ _ y _ _ _ => y
def Exp.L : Exp → List Exp
  | .mk _ _ _ y _ _ => y
def Exp.Decs : Exp → List Dec
  | .mk _ _ _ _ y _ => y
def Exp.Alts : Exp → List Alt
  | .mk _ _ _ _ _ y => y
def Dec.Name : Dec → ByteArray
  | .mk y _ _ _ => y
def Dec.Pars : Dec → List ByteArray
  | .mk _ y _ _ => y
def Dec.E : Dec → Exp
  | .mk _ _ y _ => y
def Dec.Where : Dec → List Dec
  | .mk _ _ _ y => y
def Alt.Great : Alt → ByteArray
  | .mk y _ _ => y
def Alt.Vars : Alt → List ByteArray
  | .mk _ y _ => y
def Alt.E : Alt → Exp
  | .mk _ _ y => y
mutual
def Exp.enc : Exp → HV
  | .mk K_ S_ N_ L_ Decs_ Alts_ => .agg ([HV.int .i64 K_] ++ ([HV.str S_] ++ ([HV.int .i64 N_] ++ ([HV.sl (List.map Exp.enc L_)] ++ ([HV.sl (List.map Dec.enc Decs_)] ++ ([HV.sl (List.map Alt.enc Alts_)] ++ ([])))))))
def Dec.enc : Dec → HV
  | .mk Name_ Pars_ E_ Where_ => .agg ([HV.str Name_] ++ ([HV.sl (List.map HV.str Pars_)] ++ ((Exp.enc E_).cells ++ ([HV.sl (List.map Dec.enc Where_)] ++ ([])))))
def Alt.enc : Alt → HV
  | .mk Great_ Vars_ E_ => .agg ([HV.str Great_] ++ ([HV.sl (List.map HV.str Vars_)] ++ ((Exp.enc E_).cells ++ ([]))))
end
mutual
theorem Exp.cl : ∀ t : Exp, Cl (Exp.enc t)
  | .mk K_ S_ N_ L_ Decs_ Alts_ => by
    rw [Exp.enc]
    exact cl_of (clapp (cl1 (cl_int _ _)) (clapp (cl1 (cl_str _)) (clapp (cl1 (cl_int _ _)) (clapp (cl1 (cl_sl (Exp.cll L_))) (clapp (cl1 (cl_sl (Dec.cll Decs_))) (clapp (cl1 (cl_sl (Alt.cll Alts_))) (ClL.nil)))))))
theorem Exp.cll : ∀ l : List Exp, ClL (List.map Exp.enc l)
  | [] => ClL.nil
  | x :: l => ClL.cons (Exp.cl x) (Exp.cll l)
theorem Dec.cl : ∀ t : Dec, Cl (Dec.enc t)
  | .mk Name_ Pars_ E_ Where_ => by
    rw [Dec.enc]
    exact cl_of (clapp (cl1 (cl_str _)) (clapp (cl1 (cl_sl (cll_of (fun _ => cl_str _) _))) (clapp (cl_cells (Exp.cl E_)) (clapp (cl1 (cl_sl (Dec.cll Where_))) (ClL.nil)))))
theorem Dec.cll : ∀ l : List Dec, ClL (List.map Dec.enc l)
  | [] => ClL.nil
  | x :: l => ClL.cons (Dec.cl x) (Dec.cll l)
theorem Alt.cl : ∀ t : Alt, Cl (Alt.enc t)
  | .mk Great_ Vars_ E_ => by
    rw [Alt.enc]
    exact cl_of (clapp (cl1 (cl_str _)) (clapp (cl1 (cl_sl (cll_of (fun _ => cl_str _) _))) (clapp (cl_cells (Exp.cl E_)) (ClL.nil))))
theorem Alt.cll : ∀ l : List Alt, ClL (List.map Alt.enc l)
  | [] => ClL.nil
  | x :: l => ClL.cons (Alt.cl x) (Alt.cll l)
end
structure Prog where
  Datas : List Data
  Decs : List Dec
def Prog.enc : Prog → HV
  | ⟨Datas_, Decs_⟩ => .agg ([HV.sl (List.map Data.enc Datas_)] ++ ([HV.sl (List.map Dec.enc Decs_)] ++ ([])))
mutual
theorem Prog.cl : ∀ t : Prog, Cl (Prog.enc t)
  | ⟨Datas_, Decs_⟩ => by
    rw [Prog.enc]
    exact cl_of (clapp (cl1 (cl_sl (Data.cll Datas_))) (clapp (cl1 (cl_sl (Dec.cll Decs_))) (ClL.nil)))
theorem Prog.cll : ∀ l : List Prog, ClL (List.map Prog.enc l)
  | [] => ClL.nil
  | x :: l => ClL.cons (Prog.cl x) (Prog.cll l)
end
structure Tok where
  K : Int
  S : ByteArray
  Line : Int
  Col : Int
def Tok.enc : Tok → HV
  | ⟨K_, S_, Line_, Col_⟩ => .agg ([HV.int .i64 K_] ++ ([HV.str S_] ++ ([HV.int .i64 Line_] ++ ([HV.int .i64 Col_] ++ ([])))))
mutual
theorem Tok.cl : ∀ t : Tok, Cl (Tok.enc t)
  | ⟨K_, S_, Line_, Col_⟩ => by
    rw [Tok.enc]
    exact cl_of (clapp (cl1 (cl_int _ _)) (clapp (cl1 (cl_str _)) (clapp (cl1 (cl_int _ _)) (clapp (cl1 (cl_int _ _)) (ClL.nil)))))
theorem Tok.cll : ∀ l : List Tok, ClL (List.map Tok.enc l)
  | [] => ClL.nil
  | x :: l => ClL.cons (Tok.cl x) (Tok.cll l)
end
structure spec_l2Lay where
  out : List Tok
  stack : List Int
  wait : Bool
  bad : Bool
def spec_l2Lay.enc : spec_l2Lay → HV
  | ⟨out_, stack_, wait_, bad_⟩ => .agg ([HV.sl (List.map Tok.enc out_)] ++ ([HV.sl (List.map (HV.int .i64) stack_)] ++ ([HV.bool wait_] ++ ([HV.bool bad_] ++ ([])))))
mutual
theorem spec_l2Lay.cl : ∀ t : spec_l2Lay, Cl (spec_l2Lay.enc t)
  | ⟨out_, stack_, wait_, bad_⟩ => by
    rw [spec_l2Lay.enc]
    exact cl_of (clapp (cl1 (cl_sl (Tok.cll out_))) (clapp (cl1 (cl_sl (cll_of (fun _ => cl_int _ _) _))) (clapp (cl1 (cl_bool _)) (clapp (cl1 (cl_bool _)) (ClL.nil)))))
theorem spec_l2Lay.cll : ∀ l : List spec_l2Lay, ClL (List.map spec_l2Lay.enc l)
  | [] => ClL.nil
  | x :: l => ClL.cons (spec_l2Lay.cl x) (spec_l2Lay.cll l)
end
structure spec_l4Reader where
  l : List Tok
  at_ : Int
  deep : Int
  bad : Bool
def spec_l4Reader.enc : spec_l4Reader → HV
  | ⟨l_, at__, deep_, bad_⟩ => .agg ([HV.sl (List.map Tok.enc l_)] ++ ([HV.int .i64 at__] ++ ([HV.int .i64 deep_] ++ ([HV.bool bad_] ++ ([])))))
mutual
theorem spec_l4Reader.cl : ∀ t : spec_l4Reader, Cl (spec_l4Reader.enc t)
  | ⟨l_, at__, deep_, bad_⟩ => by
    rw [spec_l4Reader.enc]
    exact cl_of (clapp (cl1 (cl_sl (Tok.cll l_))) (clapp (cl1 (cl_int _ _)) (clapp (cl1 (cl_int _ _)) (clapp (cl1 (cl_bool _)) (ClL.nil)))))
theorem spec_l4Reader.cll : ∀ l : List spec_l4Reader, ClL (List.map spec_l4Reader.enc l)
  | [] => ClL.nil
  | x :: l => ClL.cons (spec_l4Reader.cl x) (spec_l4Reader.cll l)
end
structure spec_l8Web where
  names : List ByteArray
  needs : List (List Bool)
def spec_l8Web.enc : spec_l8Web → HV
  | ⟨names_, needs_⟩ => .agg ([HV.sl (List.map HV.str names_)] ++ ([HV.sl (List.map (fun y => HV.sl (List.map HV.bool y)) needs_)] ++ ([])))
mutual
theorem spec_l8Web.cl : ∀ t : spec_l8Web, Cl (spec_l8Web.enc t)
  | ⟨names_, needs_⟩ => by
    rw [spec_l8Web.enc]
    exact cl_of (clapp (cl1 (cl_sl (cll_of (fun _ => cl_str _) _))) (clapp (cl1 (cl_sl (cll_of (fun _ => cl_sl (cll_of (fun _ => cl_bool _) _)) _))) (ClL.nil)))
theorem spec_l8Web.cll : ∀ l : List spec_l8Web, ClL (List.map spec_l8Web.enc l)
  | [] => ClL.nil
  | x :: l => ClL.cons (spec_l8Web.cl x) (spec_l8Web.cll l)
end
def S : DSys where
  ty := fun
    | 0 => spec_l1Cur
    | 1 => Ty
    | 2 => Con
    | 3 => Data
    | 4 => Exp
    | 5 => Dec
    | 6 => Alt
    | 7 => Prog
    | 8 => Tok
    | 9 => spec_l2Lay
    | 10 => spec_l4Reader
    | 11 => spec_l8Web
    | _ + 12 => Unit
  fl := fun
    | 0 => [.ls (.int .u8), .int .i64, .int .i64]
    | 1 => [.int .i64, .str, .int .i64, .ls (.st 1)]
    | 2 => [.str, .ls (.st 1)]
    | 3 => [.str, .ls (.st 2)]
    | 4 => [.int .i64, .str, .int .i64, .ls (.st 4), .ls (.st 5), .ls (.st 6)]
    | 5 => [.str, .ls .str, .st 4, .ls (.st 5)]
    | 6 => [.str, .ls .str, .st 4]
    | 7 => [.ls (.st 3), .ls (.st 5)]
    | 8 => [.int .i64, .str, .int .i64, .int .i64]
    | 9 => [.ls (.st 8), .ls (.int .i64), .bool, .bool]
    | 10 => [.ls (.st 8), .int .i64, .int .i64, .bool]
    | 11 => [.ls .str, .ls (.ls .bool)]
    | _ + 12 => []
  sz := fun
    | 0 => 3
    | 1 => 4
    | 2 => 2
    | 3 => 2
    | 4 => 6
    | 5 => 9
    | 6 => 8
    | 7 => 2
    | 8 => 4
    | 9 => 4
    | 10 => 4
    | 11 => 2
    | _ + 12 => 0
  get := fun
    | 0, x => (x.b, x.i, x.h, ())
    | 1, x => (x.K, x.S, x.N, x.L, ())
    | 2, x => (x.Name, x.Args, ())
    | 3, x => (x.Name, x.Cons, ())
    | 4, x => (x.K, x.S, x.N, x.L, x.Decs, x.Alts, ())
    | 5, x => (x.Name, x.Pars, x.E, x.Where, ())
    | 6, x => (x.Great, x.Vars, x.E, ())
    | 7, x => (x.Datas, x.Decs, ())
    | 8, x => (x.K, x.S, x.Line, x.Col, ())
    | 9, x => (x.out, x.stack, x.wait, x.bad, ())
    | 10, x => (x.l, x.at_, x.deep, x.bad, ())
    | 11, x => (x.names, x.needs, ())
    | _ + 12, _ => ()
  mks := fun
    | 0, h => spec_l1Cur.mk h.1 h.2.1 h.2.2.1
    | 1, h => Ty.mk h.1 h.2.1 h.2.2.1 h.2.2.2.1
    | 2, h => Con.mk h.1 h.2.1
    | 3, h => Data.mk h.1 h.2.1
    | 4, h => Exp.mk h.1 h.2.1 h.2.2.1 h.2.2.2.1 h.2.2.2.2.1 h.2.2.2.2.2.1
    | 5, h => Dec.mk h.1 h.2.1 h.2.2.1 h.2.2.2.1
    | 6, h => Alt.mk h.1 h.2.1 h.2.2.1
    | 7, h => Prog.mk h.1 h.2.1
    | 8, h => Tok.mk h.1 h.2.1 h.2.2.1 h.2.2.2.1
    | 9, h => spec_l2Lay.mk h.1 h.2.1 h.2.2.1 h.2.2.2.1
    | 10, h => spec_l4Reader.mk h.1 h.2.1 h.2.2.1 h.2.2.2.1
    | 11, h => spec_l8Web.mk h.1 h.2.1
    | _ + 12, _ => ()
  enc := fun
    | 0, x => x.enc
    | 1, x => x.enc
    | 2, x => x.enc
    | 3, x => x.enc
    | 4, x => x.enc
    | 5, x => x.enc
    | 6, x => x.enc
    | 7, x => x.enc
    | 8, x => x.enc
    | 9, x => x.enc
    | 10, x => x.enc
    | 11, x => x.enc
    | _ + 12, _ => .agg []
theorem spec_l1Cur.len : ∀ t : spec_l1Cur, (spec_l1Cur.enc t).cells.length = 3 := fun t => by cases t; rw [spec_l1Cur.enc]; simp [cells_agg]
theorem Ty.len : ∀ t : Ty, (Ty.enc t).cells.length = 4 := fun t => by cases t; rw [Ty.enc]; simp [cells_agg]
theorem Con.len : ∀ t : Con, (Con.enc t).cells.length = 2 := fun t => by cases t; rw [Con.enc]; simp [cells_agg]
theorem Data.len : ∀ t : Data, (Data.enc t).cells.length = 2 := fun t => by cases t; rw [Data.enc]; simp [cells_agg]
theorem Exp.len : ∀ t : Exp, (Exp.enc t).cells.length = 6 := fun t => by cases t; rw [Exp.enc]; simp [cells_agg]
theorem Dec.len : ∀ t : Dec, (Dec.enc t).cells.length = 9 := fun t => by cases t; rw [Dec.enc]; simp [cells_agg, Exp.len]
theorem Alt.len : ∀ t : Alt, (Alt.enc t).cells.length = 8 := fun t => by cases t; rw [Alt.enc]; simp [cells_agg, Exp.len]
theorem Prog.len : ∀ t : Prog, (Prog.enc t).cells.length = 2 := fun t => by cases t; rw [Prog.enc]; simp [cells_agg]
theorem Tok.len : ∀ t : Tok, (Tok.enc t).cells.length = 4 := fun t => by cases t; rw [Tok.enc]; simp [cells_agg]
theorem spec_l2Lay.len : ∀ t : spec_l2Lay, (spec_l2Lay.enc t).cells.length = 4 := fun t => by cases t; rw [spec_l2Lay.enc]; simp [cells_agg]
theorem spec_l4Reader.len : ∀ t : spec_l4Reader, (spec_l4Reader.enc t).cells.length = 4 := fun t => by cases t; rw [spec_l4Reader.enc]; simp [cells_agg]
theorem spec_l8Web.len : ∀ t : spec_l8Web, (spec_l8Web.enc t).cells.length = 2 := fun t => by cases t; rw [spec_l8Web.enc]; simp [cells_agg]
theorem S_ok : S.Ok where
  enc := fun i x => by
    match i, x with
    | 0, x => exact (spec_l1Cur.enc.eq_def x).trans (by cases x; rfl)
    | 1, x => exact (Ty.enc.eq_def x).trans (by cases x; rfl)
    | 2, x => exact (Con.enc.eq_def x).trans (by cases x; rfl)
    | 3, x => exact (Data.enc.eq_def x).trans (by cases x; rfl)
    | 4, x => exact (Exp.enc.eq_def x).trans (by cases x; rfl)
    | 5, x => exact (Dec.enc.eq_def x).trans (by cases x; rfl)
    | 6, x => exact (Alt.enc.eq_def x).trans (by cases x; rfl)
    | 7, x => exact (Prog.enc.eq_def x).trans (by cases x; rfl)
    | 8, x => exact (Tok.enc.eq_def x).trans (by cases x; rfl)
    | 9, x => exact (spec_l2Lay.enc.eq_def x).trans (by cases x; rfl)
    | 10, x => exact (spec_l4Reader.enc.eq_def x).trans (by cases x; rfl)
    | 11, x => exact (spec_l8Web.enc.eq_def x).trans (by cases x; rfl)
    | _ + 12, _ => rfl
  flat := fun i x => by
    match i, x with
    | 0, x => rfl
    | 1, x => rfl
    | 2, x => rfl
    | 3, x => rfl
    | 4, x => rfl
    | 5, x => rfl
    | 6, x => rfl
    | 7, x => rfl
    | 8, x => rfl
    | 9, x => rfl
    | 10, x => rfl
    | 11, x => rfl
    | _ + 12, _ => rfl
  sz := fun i x => by
    match i, x with
    | 0, x => exact spec_l1Cur.len x
    | 1, x => exact Ty.len x
    | 2, x => exact Con.len x
    | 3, x => exact Data.len x
    | 4, x => exact Exp.len x
    | 5, x => exact Dec.len x
    | 6, x => exact Alt.len x
    | 7, x => exact Prog.len x
    | 8, x => exact Tok.len x
    | 9, x => exact spec_l2Lay.len x
    | 10, x => exact spec_l4Reader.len x
    | 11, x => exact spec_l8Web.len x
    | _ + 12, _ => rfl
  gmk := fun i h => by
    match i, h with
    | 0, h => rfl
    | 1, h => rfl
    | 2, h => rfl
    | 3, h => rfl
    | 4, h => rfl
    | 5, h => rfl
    | 6, h => rfl
    | 7, h => rfl
    | 8, h => rfl
    | 9, h => rfl
    | 10, h => rfl
    | 11, h => rfl
    | _ + 12, _ => rfl
  cl := fun i x => by
    match i, x with
    | 0, x => exact spec_l1Cur.cl x
    | 1, x => exact Ty.cl x
    | 2, x => exact Con.cl x
    | 3, x => exact Data.cl x
    | 4, x => exact Exp.cl x
    | 5, x => exact Dec.cl x
    | 6, x => exact Alt.cl x
    | 7, x => exact Prog.cl x
    | 8, x => exact Tok.cl x
    | 9, x => exact spec_l2Lay.cl x
    | 10, x => exact spec_l4Reader.cl x
    | 11, x => exact spec_l8Web.cl x
    | _ + 12, _ => exact cl_of ClL.nil
end W
