import Derived.Test.YtnhdobhfebiggaaHLT
namespace W
set_option linter.unusedSimpArgs false
set_option linter.unusedVariables false
open Go HL
mutual
structure Alt where
  Great : ByteArray
  Vars : (List ByteArray)
  E : Exp
structure Dec where
  Name : ByteArray
  Pars : (List ByteArray)
  E : Exp
  Where : (List Dec)
structure Exp where
  K : Int
  S : ByteArray
  N : Int
  L : (List Exp)
  Decs : (List Dec)
  Alts : (List Alt)
end
mutual
def Alt.enc : Alt → HV
  | ⟨Great_, Vars_, E_⟩ => .agg ([(HV.str Great_), (HV.sl (List.map HV.str Vars_))] ++ (Exp.enc E_).cells)
def Dec.enc : Dec → HV
  | ⟨Name_, Pars_, E_, Where_⟩ => .agg ([(HV.str Name_), (HV.sl (List.map HV.str Pars_))] ++ (Exp.enc E_).cells ++ [(HV.sl (List.map Dec.enc Where_))])
def Exp.enc : Exp → HV
  | ⟨K_, S_, N_, L_, Decs_, Alts_⟩ => .agg ([(HV.int .i64 K_), (HV.str S_), (HV.int .i64 N_), (HV.sl (List.map Exp.enc L_)), (HV.sl (List.map Dec.enc Decs_)), (HV.sl (List.map Alt.enc Alts_))])
end
theorem Exp.enc_eq (t : Exp) : Exp.enc t = .agg [(HV.int .i64 t.K), (HV.str t.S), (HV.int .i64 t.N), (HV.sl (List.map Exp.enc t.L)), (HV.sl (List.map Dec.enc t.Decs)), (HV.sl (List.map Alt.enc t.Alts))] := by
  obtain ⟨_, _, _, _, _, _⟩ := t
  rw [Exp.enc]
  try rfl
theorem Alt.enc_eq (t : Alt) : Alt.enc t = .agg [(HV.str t.Great), (HV.sl (List.map HV.str t.Vars)), (HV.int .i64 t.E.K), (HV.str t.E.S), (HV.int .i64 t.E.N), (HV.sl (List.map Exp.enc t.E.L)), (HV.sl (List.map Dec.enc t.E.Decs)), (HV.sl (List.map Alt.enc t.E.Alts))] := by
  obtain ⟨_, _, _⟩ := t
  rw [Alt.enc]
  simp only [Exp.enc_eq]
  try rfl
theorem Dec.enc_eq (t : Dec) : Dec.enc t = .agg [(HV.str t.Name), (HV.sl (List.map HV.str t.Pars)), (HV.int .i64 t.E.K), (HV.str t.E.S), (HV.int .i64 t.E.N), (HV.sl (List.map Exp.enc t.E.L)), (HV.sl (List.map Dec.enc t.E.Decs)), (HV.sl (List.map Alt.enc t.E.Alts)), (HV.sl (List.map Dec.enc t.Where))] := by
  obtain ⟨_, _, _, _⟩ := t
  rw [Dec.enc]
  simp only [Exp.enc_eq]
  try rfl
mutual
theorem Alt.cl : ∀ t : Alt, Cl (Alt.enc t)
  | ⟨Great_, Vars_, E_⟩ => by
    rw [Alt.enc]
    exact cl_of (clapp (ClL.cons (cl_str _) (ClL.cons (cl_sl (cll_of (fun y => (cl_str _)) Vars_)) ClL.nil)) (cl_cells (Exp.cl E_)))
theorem Alt.cll : ∀ l : List Alt, ClL (List.map Alt.enc l)
  | [] => ClL.nil
  | x :: l => ClL.cons (Alt.cl x) (Alt.cll l)
theorem Dec.cl : ∀ t : Dec, Cl (Dec.enc t)
  | ⟨Name_, Pars_, E_, Where_⟩ => by
    rw [Dec.enc]
    exact cl_of (clapp (clapp (ClL.cons (cl_str _) (ClL.cons (cl_sl (cll_of (fun y => (cl_str _)) Pars_)) ClL.nil)) (cl_cells (Exp.cl E_))) (ClL.cons (cl_sl (Dec.cll Where_)) ClL.nil))
theorem Dec.cll : ∀ l : List Dec, ClL (List.map Dec.enc l)
  | [] => ClL.nil
  | x :: l => ClL.cons (Dec.cl x) (Dec.cll l)
theorem Exp.cl : ∀ t : Exp, Cl (Exp.enc t)
  | ⟨K_, S_, N_, L_, Decs_, Alts_⟩ => by
    rw [Exp.enc]
    exact cl_of (ClL.cons (cl_int _ _) (ClL.cons (cl_str _) (ClL.cons (cl_int _ _) (ClL.cons (cl_sl (Exp.cll L_)) (ClL.cons (cl_sl (Dec.cll Decs_)) (ClL.cons (cl_sl (Alt.cll Alts_)) ClL.nil))))))
theorem Exp.cll : ∀ l : List Exp, ClL (List.map Exp.enc l)
  | [] => ClL.nil
  | x :: l => ClL.cons (Exp.cl x) (Exp.cll l)
end
theorem Alt.rl (σ : Nat → Nat) (l : List Alt) : renL σ (List.map Alt.enc l) = List.map Alt.enc l := (Alt.cll l).1 σ
theorem Alt.rn (σ : Nat → Nat) (t : Alt) : (Alt.enc t).ren σ = Alt.enc t := (Alt.cl t).1 σ
theorem Alt.sc (n : Nat) (t : Alt) : Scd n (Alt.enc t) = True := eq_true ((Alt.cl t).2 n)
theorem Alt.sl (n : Nat) (l : List Alt) : ScdL n (List.map Alt.enc l) = True := eq_true ((Alt.cll l).2 n)
theorem Dec.rl (σ : Nat → Nat) (l : List Dec) : renL σ (List.map Dec.enc l) = List.map Dec.enc l := (Dec.cll l).1 σ
theorem Dec.rn (σ : Nat → Nat) (t : Dec) : (Dec.enc t).ren σ = Dec.enc t := (Dec.cl t).1 σ
theorem Dec.sc (n : Nat) (t : Dec) : Scd n (Dec.enc t) = True := eq_true ((Dec.cl t).2 n)
theorem Dec.sl (n : Nat) (l : List Dec) : ScdL n (List.map Dec.enc l) = True := eq_true ((Dec.cll l).2 n)
theorem Exp.rl (σ : Nat → Nat) (l : List Exp) : renL σ (List.map Exp.enc l) = List.map Exp.enc l := (Exp.cll l).1 σ
theorem Exp.rn (σ : Nat → Nat) (t : Exp) : (Exp.enc t).ren σ = Exp.enc t := (Exp.cl t).1 σ
theorem Exp.sc (n : Nat) (t : Exp) : Scd n (Exp.enc t) = True := eq_true ((Exp.cl t).2 n)
theorem Exp.sl (n : Nat) (l : List Exp) : ScdL n (List.map Exp.enc l) = True := eq_true ((Exp.cll l).2 n)
structure Ty where
  K : Int
  S : ByteArray
  N : Int
  L : (List Ty)
def Ty.enc : Ty → HV
  | ⟨K_, S_, N_, L_⟩ => .agg ([(HV.int .i64 K_), (HV.str S_), (HV.int .i64 N_), (HV.sl (List.map Ty.enc L_))])
theorem Ty.enc_eq (t : Ty) : Ty.enc t = .agg [(HV.int .i64 t.K), (HV.str t.S), (HV.int .i64 t.N), (HV.sl (List.map Ty.enc t.L))] := by
  obtain ⟨_, _, _, _⟩ := t
  rw [Ty.enc]
  try rfl
mutual
theorem Ty.cl : ∀ t : Ty, Cl (Ty.enc t)
  | ⟨K_, S_, N_, L_⟩ => by
    rw [Ty.enc]
    exact cl_of (ClL.cons (cl_int _ _) (ClL.cons (cl_str _) (ClL.cons (cl_int _ _) (ClL.cons (cl_sl (Ty.cll L_)) ClL.nil))))
theorem Ty.cll : ∀ l : List Ty, ClL (List.map Ty.enc l)
  | [] => ClL.nil
  | x :: l => ClL.cons (Ty.cl x) (Ty.cll l)
end
theorem Ty.rl (σ : Nat → Nat) (l : List Ty) : renL σ (List.map Ty.enc l) = List.map Ty.enc l := (Ty.cll l).1 σ
theorem Ty.rn (σ : Nat → Nat) (t : Ty) : (Ty.enc t).ren σ = Ty.enc t := (Ty.cl t).1 σ
theorem Ty.sc (n : Nat) (t : Ty) : Scd n (Ty.enc t) = True := eq_true ((Ty.cl t).2 n)
theorem Ty.sl (n : Nat) (l : List Ty) : ScdL n (List.map Ty.enc l) = True := eq_true ((Ty.cll l).2 n)
structure Con where
  Name : ByteArray
  Args : (List Ty)
def Con.enc : Con → HV
  | ⟨Name_, Args_⟩ => .agg ([(HV.str Name_), (HV.sl (List.map Ty.enc Args_))])
theorem Con.enc_eq (t : Con) : Con.enc t = .agg [(HV.str t.Name), (HV.sl (List.map Ty.enc t.Args))] := by
  obtain ⟨_, _⟩ := t
  rw [Con.enc]
  try rfl
theorem Con.cl : ∀ t : Con, Cl (Con.enc t)
  | ⟨Name_, Args_⟩ => by
    rw [Con.enc]
    exact cl_of (ClL.cons (cl_str _) (ClL.cons (cl_sl (Ty.cll Args_)) ClL.nil))
theorem Con.cll : ∀ l : List Con, ClL (List.map Con.enc l)
  | [] => ClL.nil
  | x :: l => ClL.cons (Con.cl x) (Con.cll l)
theorem Con.rl (σ : Nat → Nat) (l : List Con) : renL σ (List.map Con.enc l) = List.map Con.enc l := (Con.cll l).1 σ
theorem Con.rn (σ : Nat → Nat) (t : Con) : (Con.enc t).ren σ = Con.enc t := (Con.cl t).1 σ
theorem Con.sc (n : Nat) (t : Con) : Scd n (Con.enc t) = True := eq_true ((Con.cl t).2 n)
theorem Con.sl (n : Nat) (l : List Con) : ScdL n (List.map Con.enc l) = True := eq_true ((Con.cll l).2 n)
structure Data where
  Name : ByteArray
  Cons : (List Con)
def Data.enc : Data → HV
  | ⟨Name_, Cons_⟩ => .agg ([(HV.str Name_), (HV.sl (List.map Con.enc Cons_))])
theorem Data.enc_eq (t : Data) : Data.enc t = .agg [(HV.str t.Name), (HV.sl (List.map Con.enc t.Cons))] := by
  obtain ⟨_, _⟩ := t
  rw [Data.enc]
  try rfl
theorem Data.cl : ∀ t : Data, Cl (Data.enc t)
  | ⟨Name_, Cons_⟩ => by
    rw [Data.enc]
    exact cl_of (ClL.cons (cl_str _) (ClL.cons (cl_sl (Con.cll Cons_)) ClL.nil))
theorem Data.cll : ∀ l : List Data, ClL (List.map Data.enc l)
  | [] => ClL.nil
  | x :: l => ClL.cons (Data.cl x) (Data.cll l)
theorem Data.rl (σ : Nat → Nat) (l : List Data) : renL σ (List.map Data.enc l) = List.map Data.enc l := (Data.cll l).1 σ
theorem Data.rn (σ : Nat → Nat) (t : Data) : (Data.enc t).ren σ = Data.enc t := (Data.cl t).1 σ
theorem Data.sc (n : Nat) (t : Data) : Scd n (Data.enc t) = True := eq_true ((Data.cl t).2 n)
theorem Data.sl (n : Nat) (l : List Data) : ScdL n (List.map Data.enc l) = True := eq_true ((Data.cll l).2 n)
structure Prog where
  Datas : (List Data)
  Decs : (List Dec)
def Prog.enc : Prog → HV
  | ⟨Datas_, Decs_⟩ => .agg ([(HV.sl (List.map Data.enc Datas_)), (HV.sl (List.map Dec.enc Decs_))])
theorem Prog.enc_eq (t : Prog) : Prog.enc t = .agg [(HV.sl (List.map Data.enc t.Datas)), (HV.sl (List.map Dec.enc t.Decs))] := by
  obtain ⟨_, _⟩ := t
  rw [Prog.enc]
  try rfl
theorem Prog.cl : ∀ t : Prog, Cl (Prog.enc t)
  | ⟨Datas_, Decs_⟩ => by
    rw [Prog.enc]
    exact cl_of (ClL.cons (cl_sl (Data.cll Datas_)) (ClL.cons (cl_sl (Dec.cll Decs_)) ClL.nil))
theorem Prog.cll : ∀ l : List Prog, ClL (List.map Prog.enc l)
  | [] => ClL.nil
  | x :: l => ClL.cons (Prog.cl x) (Prog.cll l)
theorem Prog.rl (σ : Nat → Nat) (l : List Prog) : renL σ (List.map Prog.enc l) = List.map Prog.enc l := (Prog.cll l).1 σ
theorem Prog.rn (σ : Nat → Nat) (t : Prog) : (Prog.enc t).ren σ = Prog.enc t := (Prog.cl t).1 σ
theorem Prog.sc (n : Nat) (t : Prog) : Scd n (Prog.enc t) = True := eq_true ((Prog.cl t).2 n)
theorem Prog.sl (n : Nat) (l : List Prog) : ScdL n (List.map Prog.enc l) = True := eq_true ((Prog.cll l).2 n)
theorem encT : type_of% (And.intro (@Exp.enc_eq) (And.intro (@Dec.enc_eq) (And.intro (@Alt.enc_eq) (And.intro (@Ty.enc_eq) (And.intro (@Con.enc_eq) (And.intro (@Data.enc_eq) (@Prog.enc_eq))))))) := And.intro (@Exp.enc_eq) (And.intro (@Dec.enc_eq) (And.intro (@Alt.enc_eq) (And.intro (@Ty.enc_eq) (And.intro (@Con.enc_eq) (And.intro (@Data.enc_eq) (@Prog.enc_eq))))))
theorem erT : type_of% (And.intro (@Exp.rl) (And.intro (@Dec.rl) (And.intro (@Alt.rl) (And.intro (@Ty.rl) (And.intro (@Con.rl) (And.intro (@Data.rl) (@Prog.rl))))))) := And.intro (@Exp.rl) (And.intro (@Dec.rl) (And.intro (@Alt.rl) (And.intro (@Ty.rl) (And.intro (@Con.rl) (And.intro (@Data.rl) (@Prog.rl))))))
theorem esT : type_of% (And.intro (@Exp.sc) (And.intro (@Exp.sl) (And.intro (@Dec.sc) (And.intro (@Dec.sl) (And.intro (@Alt.sc) (And.intro (@Alt.sl) (And.intro (@Ty.sc) (And.intro (@Ty.sl) (And.intro (@Con.sc) (And.intro (@Con.sl) (And.intro (@Data.sc) (And.intro (@Data.sl) (And.intro (@Prog.sc) (@Prog.sl)))))))))))))) := And.intro (@Exp.sc) (And.intro (@Exp.sl) (And.intro (@Dec.sc) (And.intro (@Dec.sl) (And.intro (@Alt.sc) (And.intro (@Alt.sl) (And.intro (@Ty.sc) (And.intro (@Ty.sl) (And.intro (@Con.sc) (And.intro (@Con.sl) (And.intro (@Data.sc) (And.intro (@Data.sl) (And.intro (@Prog.sc) (@Prog.sl)))))))))))))
theorem gE : type_of% (And.intro @hgT @encT) := And.intro @hgT @encT
end W
