/- ProgText: the law's function answers true. -/
import Derived.Test.YtjlpikjofjhafaaGreatDoorSLawa
set_option linter.unusedSimpArgs false
set_option linter.unusedVariables false
set_option linter.unusedSectionVars false
namespace W
set_option linter.unusedVariables false
set_option maxRecDepth 100000
open Go HL HL.X
theorem Ty.enc_eq (K_ : Int) (S_ : ByteArray) (N_ : Int) (L_ : List Ty) : Ty.enc (Ty.mk K_ S_ N_ L_) = .agg ([HV.int .i64 K_] ++ ([HV.str S_] ++ ([HV.int .i64 N_] ++ ([HV.sl (List.map Ty.enc L_)] ++ ([]))))) := by rw [Ty.enc]
theorem Con.enc_eq (Name_ : ByteArray) (Args_ : List Ty) : Con.enc (Con.mk Name_ Args_) = .agg ([HV.str Name_] ++ ([HV.sl (List.map Ty.enc Args_)] ++ ([]))) := by rw [Con.enc]
theorem Data.enc_eq (Name_ : ByteArray) (Cons_ : List Con) : Data.enc (Data.mk Name_ Cons_) = .agg ([HV.str Name_] ++ ([HV.sl (List.map Con.enc Cons_)] ++ ([]))) := by rw [Data.enc]
theorem Exp.enc_eq (K_ : Int) (S_ : ByteArray) (N_ : Int) (L_ : List Exp) (Decs_ : List Dec) (Alts_ : List Alt) : Exp.enc (Exp.mk K_ S_ N_ L_ Decs_ Alts_) = .agg ([HV.int .i64 K_] ++ ([HV.str S_] ++ ([HV.int .i64 N_] ++ ([HV.sl (List.map Exp.enc L_)] ++ ([HV.sl (List.map Dec.enc Decs_)] ++ ([HV.sl (List.map Alt.enc Alts_)] ++ ([]))))))) := by rw [Exp.enc]
theorem Dec.enc_eq (Name_ : ByteArray) (Pars_ : List ByteArray) (E_ : Exp) (Where_ : List Dec) : Dec.enc (Dec.mk Name_ Pars_ E_ Where_) = .agg ([HV.str Name_] ++ ([HV.sl (List.map HV.str Pars_)] ++ ((Exp.enc E_).cells ++ ([HV.sl (List.map Dec.enc Where_)] ++ ([]))))) := by rw [Dec.enc]
theorem Alt.enc_eq (Great_ : ByteArray) (Vars_ : List ByteArray) (E_ : Exp) : Alt.enc (Alt.mk Great_ Vars_ E_) = .agg ([HV.str Great_] ++ ([HV.sl (List.map HV.str Vars_)] ++ ((Exp.enc E_).cells ++ ([])))) := by rw [Alt.enc]
theorem Prog.enc_eq (Datas_ : List Data) (Decs_ : List Dec) : Prog.enc (Prog.mk Datas_ Decs_) = .agg ([HV.sl (List.map Data.enc Datas_)] ++ ([HV.sl (List.map Dec.enc Decs_)] ++ ([]))) := by rw [Prog.enc]
theorem impl_looker.enc_eq (many_ : Int) : impl_looker.enc (impl_looker.mk many_) = .agg ([HV.int .i64 many_] ++ ([])) := by rw [impl_looker.enc]
namespace Q
theorem ext_all : ∀ s ∈ tab, s.ext = none ∨ s = s_slices_Grow_string ∨ s = s_strconv_Itoa ∨ s = s_strings_Join ∨ s = s_strings_Repeat := by
  have e : tab = (tab.drop 0).take 73 ++ s_slices_Grow_string :: ((tab.drop 74).take 18 ++ s_strconv_Itoa :: ((tab.drop 93).take 2 ++ s_strings_Join :: ((tab.drop 96).take 1 ++ s_strings_Repeat :: (tab.drop 98)))) := by kernel_rfl
  have h0 : (((tab.drop 0).take 73).all fun s => s.ext.isNone) = true := by kernel_rfl
  have h1 : (((tab.drop 74).take 18).all fun s => s.ext.isNone) = true := by kernel_rfl
  have h2 : (((tab.drop 93).take 2).all fun s => s.ext.isNone) = true := by kernel_rfl
  have h3 : (((tab.drop 96).take 1).all fun s => s.ext.isNone) = true := by kernel_rfl
  have h4 : ((tab.drop 98).all fun s => s.ext.isNone) = true := by kernel_rfl
  intro s hs
  rw [e] at hs
  rcases List.mem_append.1 hs with hs | hs
  · exact .inl (by simpa using List.all_eq_true.1 h0 s hs)
  rcases List.mem_cons.1 hs with hs | hs
  · subst hs; simp
  rcases List.mem_append.1 hs with hs | hs
  · exact .inl (by simpa using List.all_eq_true.1 h1 s hs)
  rcases List.mem_cons.1 hs with hs | hs
  · subst hs; simp
  rcases List.mem_append.1 hs with hs | hs
  · exact .inl (by simpa using List.all_eq_true.1 h2 s hs)
  rcases List.mem_cons.1 hs with hs | hs
  · subst hs; simp
  rcases List.mem_append.1 hs with hs | hs
  · exact .inl (by simpa using List.all_eq_true.1 h3 s hs)
  rcases List.mem_cons.1 hs with hs | hs
  · subst hs; simp
  exact .inl (by simpa using List.all_eq_true.1 h4 s hs)
theorem hext : ∀ s ∈ tab, ∀ f, s.ext = some f → ∀ x o, f x = some o → ClaimF P s x o := by
  intro s hs f hf x o h
  rcases ext_all s hs with e | rfl | rfl | rfl | rfl
  · rw [e] at hf; cases hf
  · cases hf
    exact J.grow_claim x o h
  · cases hf
    exact J.itoa_claim x o h
  · cases hf
    exact J.join_claim x o h
  · cases hf
    exact J.rep_claim x o h
theorem law_FnExactProgText (p : Prog) (h : p.small) : HCp P s_laws_FnExactProgText.fid [Prog.enc p] (HV.bool true) :=
  law_of (tab := tab) S_ok hext (s := s_laws_FnExactProgText) (by simp [tab]) (lawText h) rfl rfl rfl
end Q
end W
