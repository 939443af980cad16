import Derived.Test.YtnhdobhfebiggaaHLT
namespace W
set_option linter.unusedSimpArgs false
set_option linter.unusedVariables false
open Go HL
mutual
structure Alt where
  Great : ByteArray
  Vars : (List ByteArray)
  E : Exp
structure Dec where
  Name : ByteArray
  Pars : (List ByteArray)
  E : Exp
  Where : (List Dec)
structure Exp where
  K : Int
  S : ByteArray
  N : Int
  L : (List Exp)
  Decs : (List Dec)
  Alts : (List Alt)
end
mutual
def Alt.enc : Alt → HV
  | ⟨Great_, Vars_, E_⟩ => .agg ([(HV.str Great_), (HV.sl (List.map HV.str Vars_))] ++ (Exp.enc E_).cells)
def Dec.enc : Dec → HV
  | ⟨Name_, Pars_, E_, Where_⟩ => .agg ([(HV.str Name_), (HV.sl (List.map HV.str Pars_))] ++ (Exp.enc E_).cells ++ [(HV.sl (List.map Dec.enc Where_))])
def Exp.enc : Exp → HV
  | ⟨K_, S_, N_, L_, Decs_, Alts_⟩ => .agg ([(HV.int .i64 K_), (HV.str S_), (HV.int .i64 N_), (HV.sl (List.map Exp.enc L_)), (HV.sl (List.map Dec.enc Decs_)), (HV.sl (List.map Alt.enc Alts_))])
end
theorem Exp.enc_eq (t : Exp) : Exp.enc t = .agg [(HV.int .i64 t.K), (HV.str t.S), (HV.int .i64 t.N), (HV.sl (List.map Exp.enc t.L)), (HV.sl (List.map Dec.enc t.Decs)), (HV.sl (List.map Alt.enc t.Alts))] := by
  obtain ⟨_, _, _, _, _, _⟩ := t
  rw [Exp.enc]
  try rfl
theorem Alt.enc_eq (t : Alt) : Alt.enc t = .agg [(HV.str t.Great), (HV.sl (List.map HV.str t.Vars)), (HV.int .i64 t.E.K), (HV.str t.E.S), (HV.int .i64 t.E.N), (HV.sl (List.map Exp.enc t.E.L)), (HV.sl (List.map Dec.enc t.E.Decs)), (HV.sl (List.map Alt.enc t.E.Alts))] := by
  obtain ⟨_, _, _⟩ := t
  rw [Alt.enc]
  simp only [Exp.enc_eq]
  try rfl
theorem Dec.enc_eq (t : Dec) : Dec.enc t = .agg [(HV.str t.Name), (HV.sl (List.map HV.str t.Pars)), (HV.int .i64 t.E.K), (HV.str t.E.S), (HV.int .i64 t.E.N), (HV.sl (List.map Exp.enc t.E.L)), (HV.sl (List.map Dec.enc t.E.Decs)), (HV.sl (List.map Alt.enc t.E.Alts)), (HV.sl (List.map Dec.enc t.Where))] := by
  obtain ⟨_, _, _, _⟩ := t
  rw [Dec.enc]
  simp only [Exp.enc_eq]
  try rfl
mutual
theorem Alt.cl : ∀ t : Alt, Cl (Alt.enc t)
  | ⟨Great_, Vars_, E_⟩ => by
    rw [Alt.enc]
    exact cl_of (clapp (ClL.cons (cl_str _) (ClL.cons (cl_sl (cll_of (fun y => (cl_str _)) Vars_)) ClL.nil)) (cl_cells (Exp.cl E_)))
theorem Alt.cll : ∀ l : List Alt, ClL (List.map Alt.enc l)
  | [] => ClL.nil
  | x :: l => ClL.cons (Alt.cl x) (Alt.cll l)
theorem Dec.cl : ∀ t : Dec, Cl (Dec.enc t)
  | ⟨Name_, Pars_, E_, Where_⟩ => by
    rw [Dec.enc]
    exact cl_of (clapp (clapp (ClL.cons (cl_str _) (ClL.cons (cl_sl (cll_of (fun y => (cl_str _)) Pars_)) ClL.nil)) (cl_cells (Exp.cl E_))) (ClL.cons (cl_sl (Dec.cll Where_)) ClL.nil))
theorem Dec.cll : ∀ l : List Dec, ClL (List.map Dec.enc l)
  | [] => ClL.nil
  | x :: l => ClL.cons (Dec.cl x) (Dec.cll l)
theorem Exp.cl : ∀ t : Exp, Cl (Exp.enc t)
  | ⟨K_, S_, N_, L_, Decs_, Alts_⟩ => by
    rw [Exp.enc]
    exact cl_of (ClL.cons (cl_int _ _) (ClL.cons (cl_str _) (ClL.cons (cl_int _ _) (ClL.cons (cl_sl (Exp.cll L_)) (ClL.cons (cl_sl (Dec.cll Decs_)) (ClL.cons (cl_sl (Alt.cll Alts_)) ClL.nil))))))
theorem Exp.cll : ∀ l : List Exp, ClL (List.map Exp.enc l)
  | [] => ClL.nil
  | x :: l => ClL.cons (Exp.cl x) (Exp.cll l)
end
theorem Alt.rl (σ : Nat → Nat) (l : List Alt) : renL σ (List.map Alt.enc l) = List.map Alt.enc l := (Alt.cll l).1 σ
theorem Alt.rn (σ : Nat → Nat) (t : Alt) : (Alt.enc t).ren σ = Alt.enc t := (Alt.cl t).1 σ
theorem Alt.sc (n : Nat) (t : Alt) : Scd n (Alt.enc t) = True := eq_true ((Alt.cl t).2 n)
theorem Alt.sl (n : Nat) (l : List Alt) : ScdL n (List.map Alt.enc l) = True := eq_true ((Alt.cll l).2 n)
theorem Dec.rl (σ : Nat → Nat) (l : List Dec) : renL σ (List.map Dec.enc l) = List.map Dec.enc l := (Dec.cll l).1 σ
theorem Dec.rn (σ : Nat → Nat) (t : Dec) : (Dec.enc t).ren σ = Dec.enc t := (Dec.cl t).1 σ
theorem Dec.sc (n : Nat) (t : Dec) : Scd n (Dec.enc t) = True := eq_true ((Dec.cl t).2 n)
theorem Dec.sl (n : Nat) (l : List Dec) : ScdL n (List.map Dec.enc l) = True := eq_true ((Dec.cll l).2 n)
theorem Exp.rl (σ : Nat → Nat) (l : List Exp) : renL σ (List.map Exp.enc l) = List.map Exp.enc l := (Exp.cll l).1 σ
theorem Exp.rn (σ : Nat → Nat) (t : Exp) : (Exp.enc t).ren σ = Exp.enc t := (Exp.cl t).1 σ
theorem Exp.sc (n : Nat) (t : Exp) : Scd n (Exp.enc t) = True := eq_true ((Exp.cl t).2 n)
theorem Exp.sl (n : Nat) (l : List Exp) : ScdL n (List.map Exp.enc l) = True := eq_true ((Exp.cll l).2 n)
theorem encT : type_of% (And.intro (@Dec.enc_eq) (And.intro (@Exp.enc_eq) (@Alt.enc_eq))) := And.intro (@Dec.enc_eq) (And.intro (@Exp.enc_eq) (@Alt.enc_eq))
theorem erT : type_of% (And.intro (@Dec.rl) (And.intro (@Exp.rl) (@Alt.rl))) := And.intro (@Dec.rl) (And.intro (@Exp.rl) (@Alt.rl))
theorem esT : type_of% (And.intro (@Dec.sc) (And.intro (@Dec.sl) (And.intro (@Exp.sc) (And.intro (@Exp.sl) (And.intro (@Alt.sc) (@Alt.sl)))))) := And.intro (@Dec.sc) (And.intro (@Dec.sl) (And.intro (@Exp.sc) (And.intro (@Exp.sl) (And.intro (@Alt.sc) (@Alt.sl)))))
theorem gE : type_of% (And.intro @hgT @encT) := And.intro @hgT @encT
end W
