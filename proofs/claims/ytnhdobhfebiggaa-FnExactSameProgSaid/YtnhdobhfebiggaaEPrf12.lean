import Derived.Test.YtnhdobhfebiggaaEPrf11
namespace W
set_option linter.unusedSimpArgs false
set_option linter.unusedVariables false
open Go HL S
open Nat (reduceAdd reduceEqDiff reduceLeDiff reduceSub reduceMul reduceLT)
set_option linter.unusedVariables false
set_option maxRecDepth 100000
set_option maxHeartbeats 4000000
namespace K
theorem spec_SameTy_L0_step (f_spec_SameTy : (Ty × Ty) → Option Bool) (f_spec_SameTy_L0 : (Ty × Ty × Int) → Option (Sum Bool Unit)) (ih_spec_SameTy : ∀ (x : (Ty × Ty)) (r : Bool), f_spec_SameTy x = some r → HCp P F.spec_SameTy [(Ty.enc x.1), (Ty.enc x.2)] (HV.bool r)) (ih_spec_SameTy_L0 : ∀ (x : (Ty × Ty × Int)) (out : (Sum Bool Unit)), f_spec_SameTy_L0 x = some out → ∀ Q : HExit → Env → St → Prop, (∀ v, out = .inr v → ∀ env st sel, Weak 0 sel [] [] env st → Q (.exit 0) env st) → (∀ r, out = .inl r → ∀ env st, RetP [(4, none)] (HV.bool r) env st → Q .ret env st) → SemL P H.spec_SameTy.ntmps 0 H.spec_SameTy_l5 [(2, (.ptr 0 1 0 0)), (3, (.ptr 1 1 0 0)), (5, (.int .i64 x.2.2))] [(.box (Ty.enc x.1)), (.box (Ty.enc x.2.1))] Q) (x : (Ty × Ty × Int)) (out : (Sum Bool Unit)) (h : (if x.2.2 < ((x.1.L.length : Nat) : Int) then (ix x.1.L x.2.2 >>= fun e11 =>
    (ix x.2.1.L x.2.2 >>= fun e12 =>
    (f_spec_SameTy (e11, e12) >>= fun r13 =>
    (if r13 = true then f_spec_SameTy_L0 (x.1, x.2.1, (IntKind.i64.wrap (x.2.2 + 1))) else
    some (.inl false))))) else
    some (.inr ())) = some out) : ∀ Q : HExit → Env → St → Prop, (∀ v, out = .inr v → ∀ env st sel, Weak 0 sel [] [] env st → Q (.exit 0) env st) → (∀ r, out = .inl r → ∀ env st, RetP [(4, none)] (HV.bool r) env st → Q .ret env st) → SemL P H.spec_SameTy.ntmps 0 H.spec_SameTy_l5 [(2, (.ptr 0 1 0 0)), (3, (.ptr 1 1 0 0)), (5, (.int .i64 x.2.2))] [(.box (Ty.enc x.1)), (.box (Ty.enc x.2.1))] Q := by
  obtain ⟨p0, p1, t5_L0⟩ := x
  try dsimp only at h
  intro Q hx hr
  refine SemL.round ?_
  try dsimp only at hx
  refine SemF.seq rfl ?_
  refine SemF.seq rfl ?_
  refine SemF.reg true rfl ?_
  try simp only [gE, ↓gT, ↓reduceIte, reduceCtorEq, reduceAdd, reduceEqDiff, reduceLeDiff, reduceLT]; (repeat intro (_ : _ ≤ lim))
  (repeat intro (_ : _ ≤ lim))
  by_cases hc10 : t5_L0 < ((p0.L.length : Nat) : Int)
  · rw [if_pos hc10] at h
    refine SemF.cond rfl ?_
    simp only [gE, ↓gT, ↓reduceIte, reduceCtorEq, reduceAdd, reduceEqDiff, reduceLeDiff, reduceLT, eq_true hc10]
    refine SemF.skip rfl ?_
    simp only [gE, ↓gT, ↓reduceIte, reduceCtorEq, reduceAdd, reduceEqDiff, reduceLeDiff, reduceLT, eq_true hc10]
    refine SemF.seq rfl ?_
    refine SemF.block rfl ?_
    refine SemF.seq rfl ?_
    refine SemF.dreg true rfl ?_
    try simp only [gE, ↓gT, ↓reduceIte, reduceCtorEq, reduceAdd, reduceEqDiff, reduceLeDiff, reduceLT, eq_true hc10]; (repeat intro (_ : _ ≤ lim))
    obtain ⟨e11, h_e11, h⟩ := bs h
    have m_e11 := ixm (f := Ty.enc) (ix_get h_e11)
    try simp only [gE, ↓gT, ↓reduceIte, reduceCtorEq, reduceAdd, reduceEqDiff, reduceLeDiff, reduceLT, eq_true hc10, eq_true (ix_nn h_e11), m_e11]; (repeat intro (_ : _ ≤ lim))
    obtain ⟨e12, h_e12, h⟩ := bs h
    have m_e12 := ixm (f := Ty.enc) (ix_get h_e12)
    try simp only [gE, ↓gT, ↓reduceIte, reduceCtorEq, reduceAdd, reduceEqDiff, reduceLeDiff, reduceLT, eq_true hc10, eq_true (ix_nn h_e11), m_e11, eq_true (ix_nn h_e12), m_e12]; (repeat intro (_ : _ ≤ lim))
    obtain ⟨r13, h_r13, h⟩ := bs h
    refine HCp.callE (ih_spec_SameTy (e11, e12) r13 h_r13) (by simp only [gE, ↓gT, ↓reduceIte, reduceCtorEq, reduceAdd, reduceEqDiff, reduceLeDiff, reduceLT, eq_true hc10, eq_true (ix_nn h_e11), m_e11, eq_true (ix_nn h_e12), m_e12]) (by simp only [scT, esT, and_self, true_and, and_true]) (by simp only [scT, esT, and_self, true_and, and_true]) ?_
    try simp only [gE, ↓gT, ↓reduceIte, reduceCtorEq, reduceAdd, reduceEqDiff, reduceLeDiff, reduceLT, eq_true hc10, eq_true (ix_nn h_e11), m_e11, eq_true (ix_nn h_e12), m_e12]; (repeat intro (_ : _ ≤ lim))
    by_cases hc14 : r13 = true
    · rw [if_pos hc14] at h
      refine SemF.cond rfl ?_
      simp only [gE, ↓gT, ↓reduceIte, reduceCtorEq, reduceAdd, reduceEqDiff, reduceLeDiff, reduceLT, eq_true hc10, eq_true (ix_nn h_e11), m_e11, eq_true (ix_nn h_e12), m_e12, hc14]
      refine SemF.skip rfl ?_
      simp only [gE, ↓gT, ↓reduceIte, reduceCtorEq, reduceAdd, reduceEqDiff, reduceLeDiff, reduceLT, eq_true hc10, eq_true (ix_nn h_e11), m_e11, eq_true (ix_nn h_e12), m_e12, hc14]
      refine SemF.reg true rfl ?_
      try simp only [gE, ↓gT, ↓reduceIte, reduceCtorEq, reduceAdd, reduceEqDiff, reduceLeDiff, reduceLT, eq_true hc10, eq_true (ix_nn h_e11), m_e11, eq_true (ix_nn h_e12), m_e12, hc14]; (repeat intro (_ : _ ≤ lim))
      refine SemL.weak (sel := [0, 1]) ⟨by simp only [gE, ↓gT, ↓reduceIte, reduceCtorEq, reduceAdd, reduceEqDiff, reduceLeDiff, reduceLT, hwT, selS, erT, eq_true hc10, eq_true (ix_nn h_e11), m_e11, eq_true (ix_nn h_e12), m_e12, hc14], by decide, by decide, by simp only [gE, ↓gT, ↓reduceIte, reduceCtorEq, reduceAdd, reduceEqDiff, reduceLeDiff, reduceLT, hwT, selS, erT, subR, eq_true hc10, eq_true (ix_nn h_e11), m_e11, eq_true (ix_nn h_e12), m_e12, hc14], by simp only [gE, ↓gT, ↓reduceIte, reduceCtorEq, reduceAdd, reduceEqDiff, reduceLeDiff, reduceLT, hwT, selS, erT, scT, esT, eq_true hc10, eq_true (ix_nn h_e11), m_e11, eq_true (ix_nn h_e12), m_e12, hc14], by simp only [gE, ↓gT, ↓reduceIte, reduceCtorEq, reduceAdd, reduceEqDiff, reduceLeDiff, reduceLT, hwT, selS, erT, scT, esT, eq_true hc10, eq_true (ix_nn h_e11), m_e11, eq_true (ix_nn h_e12), m_e12, hc14]⟩ (ih_spec_SameTy_L0 (p0, p1, (IntKind.i64.wrap (t5_L0 + 1))) out h Q hx hr)
    · rw [if_neg hc14] at h
      replace hc14 := eq_false_of_ne_true hc14
      refine SemF.cond rfl ?_
      simp only [gE, ↓gT, ↓reduceIte, reduceCtorEq, reduceAdd, reduceEqDiff, reduceLeDiff, reduceLT, eq_true hc10, eq_true (ix_nn h_e11), m_e11, eq_true (ix_nn h_e12), m_e12, hc14]
      refine SemF.seq rfl ?_
      refine SemF.reg true rfl ?_
      try simp only [gE, ↓gT, ↓reduceIte, reduceCtorEq, reduceAdd, reduceEqDiff, reduceLeDiff, reduceLT, eq_true hc10, eq_true (ix_nn h_e11), m_e11, eq_true (ix_nn h_e12), m_e12, hc14]; (repeat intro (_ : _ ≤ lim))
      refine SemF.ret rfl ?_
      try simp only [gE, ↓gT, ↓reduceIte, reduceCtorEq, reduceAdd, reduceEqDiff, reduceLeDiff, reduceLT, eq_true hc10, eq_true (ix_nn h_e11), m_e11, eq_true (ix_nn h_e12), m_e12, hc14]; (repeat intro (_ : _ ≤ lim))
      obtain rfl := Option.some.inj h
      refine hr _ rfl _ _ ?_
      simp only [gE, ↓gT, ↓reduceIte, reduceCtorEq, reduceAdd, reduceEqDiff, reduceLeDiff, reduceLT, RetP_def, eq_true hc10, eq_true (ix_nn h_e11), m_e11, eq_true (ix_nn h_e12), m_e12, hc14]
  · rw [if_neg hc10] at h
    refine SemF.cond rfl ?_
    simp only [gE, ↓gT, ↓reduceIte, reduceCtorEq, reduceAdd, reduceEqDiff, reduceLeDiff, reduceLT, eq_false hc10]
    refine SemF.exit rfl ?_
    simp only [gE, ↓gT, ↓reduceIte, reduceCtorEq, reduceAdd, reduceEqDiff, reduceLeDiff, reduceLT, eq_false hc10]
    obtain rfl := Option.some.inj h
    refine hx _ rfl _ _ [] ⟨by simp only [gE, ↓gT, ↓reduceIte, reduceCtorEq, reduceAdd, reduceEqDiff, reduceLeDiff, reduceLT, hwT, selS, erT, eq_false hc10], by decide, by decide, by simp only [gE, ↓gT, ↓reduceIte, reduceCtorEq, reduceAdd, reduceEqDiff, reduceLeDiff, reduceLT, hwT, selS, erT, subR, eq_false hc10], by simp only [gE, ↓gT, ↓reduceIte, reduceCtorEq, reduceAdd, reduceEqDiff, reduceLeDiff, reduceLT, hwT, selS, erT, scT, esT, eq_false hc10], by simp only [gE, ↓gT, ↓reduceIte, reduceCtorEq, reduceAdd, reduceEqDiff, reduceLeDiff, reduceLT, hwT, selS, erT, scT, esT, eq_false hc10]⟩
theorem spec_SameTy_all : (∀ (x : (Ty × Ty)) (r : Bool), M.spec_SameTy x = some r → HCp P F.spec_SameTy [(Ty.enc x.1), (Ty.enc x.2)] (HV.bool r)) ∧
  (∀ (x : (Ty × Ty × Int)) (out : (Sum Bool Unit)), M.spec_SameTy_L0 x = some out → ∀ Q : HExit → Env → St → Prop, (∀ v, out = .inr v → ∀ env st sel, Weak 0 sel [] [] env st → Q (.exit 0) env st) → (∀ r, out = .inl r → ∀ env st, RetP [(4, none)] (HV.bool r) env st → Q .ret env st) → SemL P H.spec_SameTy.ntmps 0 H.spec_SameTy_l5 [(2, (.ptr 0 1 0 0)), (3, (.ptr 1 1 0 0)), (5, (.int .i64 x.2.2))] [(.box (Ty.enc x.1)), (.box (Ty.enc x.2.1))] Q) := by
  refine M.spec_SameTy.mutual_partial_correctness (motive_1 := fun x r => HCp P F.spec_SameTy [(Ty.enc x.1), (Ty.enc x.2)] (HV.bool r)) (motive_2 := fun x out => ∀ Q : HExit → Env → St → Prop, (∀ v, out = .inr v → ∀ env st sel, Weak 0 sel [] [] env st → Q (.exit 0) env st) → (∀ r, out = .inl r → ∀ env st, RetP [(4, none)] (HV.bool r) env st → Q .ret env st) → SemL P H.spec_SameTy.ntmps 0 H.spec_SameTy_l5 [(2, (.ptr 0 1 0 0)), (3, (.ptr 1 1 0 0)), (5, (.int .i64 x.2.2))] [(.box (Ty.enc x.1)), (.box (Ty.enc x.2.1))] Q) ?_ ?_
  · exact fun f_spec_SameTy_L0 ih_spec_SameTy_L0 x r h => K.spec_SameTy_step f_spec_SameTy_L0 ih_spec_SameTy_L0 x r h
  · exact fun f_spec_SameTy f_spec_SameTy_L0 ih_spec_SameTy ih_spec_SameTy_L0 x out h => K.spec_SameTy_L0_step f_spec_SameTy f_spec_SameTy_L0 ih_spec_SameTy ih_spec_SameTy_L0 x out h
theorem spec_SameTy : (∀ (x : (Ty × Ty)) (r : Bool), M.spec_SameTy x = some r → HCp P F.spec_SameTy [(Ty.enc x.1), (Ty.enc x.2)] (HV.bool r)) := K.spec_SameTy_all.1
theorem spec_SameTy_L0 : (∀ (x : (Ty × Ty × Int)) (out : (Sum Bool Unit)), M.spec_SameTy_L0 x = some out → ∀ Q : HExit → Env → St → Prop, (∀ v, out = .inr v → ∀ env st sel, Weak 0 sel [] [] env st → Q (.exit 0) env st) → (∀ r, out = .inl r → ∀ env st, RetP [(4, none)] (HV.bool r) env st → Q .ret env st) → SemL P H.spec_SameTy.ntmps 0 H.spec_SameTy_l5 [(2, (.ptr 0 1 0 0)), (3, (.ptr 1 1 0 0)), (5, (.int .i64 x.2.2))] [(.box (Ty.enc x.1)), (.box (Ty.enc x.2.1))] Q) := K.spec_SameTy_all.2
theorem spec_l3SameData_L1 : ∀ (x : (Int × Data × Data × Int)) (out : (Sum Bool Unit)), M.spec_l3SameData_L1 x = some out → ∀ Q : HExit → Env → St → Prop, (∀ v, out = .inr v → ∀ env st sel, Weak 0 sel [(2, (.ptr 0 1 0 0)), (3, (.ptr 1 1 0 0)), (5, (.int .i64 x.1))] [(.box (Data.enc x.2.1)), (.box (Data.enc x.2.2.1))] env st → Q (.exit 2) env st) → (∀ r, out = .inl r → ∀ env st, RetP [(4, none)] (HV.bool r) env st → Q .ret env st) → SemL P H.spec_l3SameData.ntmps 0 H.spec_l3SameData_l10 [(2, (.ptr 0 1 0 0)), (3, (.ptr 1 1 0 0)), (5, (.int .i64 x.1)), (6, (.int .i64 x.2.2.2))] [(.box (Data.enc x.2.1)), (.box (Data.enc x.2.2.1))] Q := by
  refine M.spec_l3SameData_L1.partial_correctness (motive := fun x out => ∀ Q : HExit → Env → St → Prop, (∀ v, out = .inr v → ∀ env st sel, Weak 0 sel [(2, (.ptr 0 1 0 0)), (3, (.ptr 1 1 0 0)), (5, (.int .i64 x.1))] [(.box (Data.enc x.2.1)), (.box (Data.enc x.2.2.1))] env st → Q (.exit 2) env st) → (∀ r, out = .inl r → ∀ env st, RetP [(4, none)] (HV.bool r) env st → Q .ret env st) → SemL P H.spec_l3SameData.ntmps 0 H.spec_l3SameData_l10 [(2, (.ptr 0 1 0 0)), (3, (.ptr 1 1 0 0)), (5, (.int .i64 x.1)), (6, (.int .i64 x.2.2.2))] [(.box (Data.enc x.2.1)), (.box (Data.enc x.2.2.1))] Q) ?_
  intro f_spec_l3SameData_L1 ih_spec_l3SameData_L1 x out h
  obtain ⟨t5_L0, p0, p1, t6_L1⟩ := x
  try dsimp only at h
  intro Q hx hr
  refine SemL.round ?_
  try dsimp only at hx
  refine SemF.seq rfl ?_
  refine SemF.seq rfl ?_
  refine SemF.reg true rfl ?_
  try simp only [gE, ↓gT, ↓reduceIte, reduceCtorEq, reduceAdd, reduceEqDiff, reduceLeDiff, reduceLT]; (repeat intro (_ : _ ≤ lim))
  obtain ⟨e37, h_e37, h⟩ := bs h
  have m_e37 := ixm (f := Con.enc) (ix_get h_e37)
  try simp only [gE, ↓gT, ↓reduceIte, reduceCtorEq, reduceAdd, reduceEqDiff, reduceLeDiff, reduceLT, eq_true (ix_nn h_e37), m_e37]; (repeat intro (_ : _ ≤ lim))
  (repeat intro (_ : _ ≤ lim))
  by_cases hc38 : t6_L1 < ((e37.Args.length : Nat) : Int)
  · rw [if_pos hc38] at h
    refine SemF.cond rfl ?_
    simp only [gE, ↓gT, ↓reduceIte, reduceCtorEq, reduceAdd, reduceEqDiff, reduceLeDiff, reduceLT, eq_true (ix_nn h_e37), m_e37, eq_true hc38]
    refine SemF.skip rfl ?_
    simp only [gE, ↓gT, ↓reduceIte, reduceCtorEq, reduceAdd, reduceEqDiff, reduceLeDiff, reduceLT, eq_true (ix_nn h_e37), m_e37, eq_true hc38]
    refine SemF.seq rfl ?_
    refine SemF.block rfl ?_
    refine SemF.seq rfl ?_
    refine SemF.dreg true rfl ?_
    try simp only [gE, ↓gT, ↓reduceIte, reduceCtorEq, reduceAdd, reduceEqDiff, reduceLeDiff, reduceLT, eq_true (ix_nn h_e37), m_e37, eq_true hc38]; (repeat intro (_ : _ ≤ lim))
    obtain ⟨e39, h_e39, h⟩ := bs h
    have m_e39 := ixm (f := Ty.enc) (ix_get h_e39)
    try simp only [gE, ↓gT, ↓reduceIte, reduceCtorEq, reduceAdd, reduceEqDiff, reduceLeDiff, reduceLT, eq_true (ix_nn h_e37), m_e37, eq_true hc38, eq_true (ix_nn h_e39), m_e39]; (repeat intro (_ : _ ≤ lim))
    obtain ⟨e40, h_e40, h⟩ := bs h
    have m_e40 := ixm (f := Con.enc) (ix_get h_e40)
    try simp only [gE, ↓gT, ↓reduceIte, reduceCtorEq, reduceAdd, reduceEqDiff, reduceLeDiff, reduceLT, eq_true (ix_nn h_e37), m_e37, eq_true hc38, eq_true (ix_nn h_e39), m_e39, eq_true (ix_nn h_e40), m_e40]; (repeat intro (_ : _ ≤ lim))
    obtain ⟨e41, h_e41, h⟩ := bs h
    have m_e41 := ixm (f := Ty.enc) (ix_get h_e41)
    try simp only [gE, ↓gT, ↓reduceIte, reduceCtorEq, reduceAdd, reduceEqDiff, reduceLeDiff, reduceLT, eq_true (ix_nn h_e37), m_e37, eq_true hc38, eq_true (ix_nn h_e39), m_e39, eq_true (ix_nn h_e40), m_e40, eq_true (ix_nn h_e41), m_e41]; (repeat intro (_ : _ ≤ lim))
    obtain ⟨r42, h_r42, h⟩ := bs h
    refine HCp.callE (K.spec_SameTy (e39, e41) r42 h_r42) (by simp only [gE, ↓gT, ↓reduceIte, reduceCtorEq, reduceAdd, reduceEqDiff, reduceLeDiff, reduceLT, eq_true (ix_nn h_e37), m_e37, eq_true hc38, eq_true (ix_nn h_e39), m_e39, eq_true (ix_nn h_e40), m_e40, eq_true (ix_nn h_e41), m_e41]) (by simp only [scT, esT, and_self, true_and, and_true]) (by simp only [scT, esT, and_self, true_and, and_true]) ?_
    try simp only [gE, ↓gT, ↓reduceIte, reduceCtorEq, reduceAdd, reduceEqDiff, reduceLeDiff, reduceLT, eq_true (ix_nn h_e37), m_e37, eq_true hc38, eq_true (ix_nn h_e39), m_e39, eq_true (ix_nn h_e40), m_e40, eq_true (ix_nn h_e41), m_e41]; (repeat intro (_ : _ ≤ lim))
    by_cases hc43 : r42 = true
    · rw [if_pos hc43] at h
      refine SemF.cond rfl ?_
      simp only [gE, ↓gT, ↓reduceIte, reduceCtorEq, reduceAdd, reduceEqDiff, reduceLeDiff, reduceLT, eq_true (ix_nn h_e37), m_e37, eq_true hc38, eq_true (ix_nn h_e39), m_e39, eq_true (ix_nn h_e40), m_e40, eq_true (ix_nn h_e41), m_e41, hc43]
      refine SemF.skip rfl ?_
      simp only [gE, ↓gT, ↓reduceIte, reduceCtorEq, reduceAdd, reduceEqDiff, reduceLeDiff, reduceLT, eq_true (ix_nn h_e37), m_e37, eq_true hc38, eq_true (ix_nn h_e39), m_e39, eq_true (ix_nn h_e40), m_e40, eq_true (ix_nn h_e41), m_e41, hc43]
      refine SemF.reg true rfl ?_
      try simp only [gE, ↓gT, ↓reduceIte, reduceCtorEq, reduceAdd, reduceEqDiff, reduceLeDiff, reduceLT, eq_true (ix_nn h_e37), m_e37, eq_true hc38, eq_true (ix_nn h_e39), m_e39, eq_true (ix_nn h_e40), m_e40, eq_true (ix_nn h_e41), m_e41, hc43]; (repeat intro (_ : _ ≤ lim))
      refine SemL.weak (sel := [0, 1]) ⟨by simp only [gE, ↓gT, ↓reduceIte, reduceCtorEq, reduceAdd, reduceEqDiff, reduceLeDiff, reduceLT, hwT, selS, erT, eq_true (ix_nn h_e37), m_e37, eq_true hc38, eq_true (ix_nn h_e39), m_e39, eq_true (ix_nn h_e40), m_e40, eq_true (ix_nn h_e41), m_e41, hc43], by decide, by decide, by simp only [gE, ↓gT, ↓reduceIte, reduceCtorEq, reduceAdd, reduceEqDiff, reduceLeDiff, reduceLT, hwT, selS, erT, subR, eq_true (ix_nn h_e37), m_e37, eq_true hc38, eq_true (ix_nn h_e39), m_e39, eq_true (ix_nn h_e40), m_e40, eq_true (ix_nn h_e41), m_e41, hc43], by simp only [gE, ↓gT, ↓reduceIte, reduceCtorEq, reduceAdd, reduceEqDiff, reduceLeDiff, reduceLT, hwT, selS, erT, scT, esT, eq_true (ix_nn h_e37), m_e37, eq_true hc38, eq_true (ix_nn h_e39), m_e39, eq_true (ix_nn h_e40), m_e40, eq_true (ix_nn h_e41), m_e41, hc43], by simp only [gE, ↓gT, ↓reduceIte, reduceCtorEq, reduceAdd, reduceEqDiff, reduceLeDiff, reduceLT, hwT, selS, erT, scT, esT, eq_true (ix_nn h_e37), m_e37, eq_true hc38, eq_true (ix_nn h_e39), m_e39, eq_true (ix_nn h_e40), m_e40, eq_true (ix_nn h_e41), m_e41, hc43]⟩ (ih_spec_l3SameData_L1 (t5_L0, p0, p1, (IntKind.i64.wrap (t6_L1 + 1))) out h Q hx hr)
    · rw [if_neg hc43] at h
      replace hc43 := eq_false_of_ne_true hc43
      refine SemF.cond rfl ?_
      simp only [gE, ↓gT, ↓reduceIte, reduceCtorEq, reduceAdd, reduceEqDiff, reduceLeDiff, reduceLT, eq_true (ix_nn h_e37), m_e37, eq_true hc38, eq_true (ix_nn h_e39), m_e39, eq_true (ix_nn h_e40), m_e40, eq_true (ix_nn h_e41), m_e41, hc43]
      refine SemF.seq rfl ?_
      refine SemF.reg true rfl ?_
      try simp only [gE, ↓gT, ↓reduceIte, reduceCtorEq, reduceAdd, reduceEqDiff, reduceLeDiff, reduceLT, eq_true (ix_nn h_e37), m_e37, eq_true hc38, eq_true (ix_nn h_e39), m_e39, eq_true (ix_nn h_e40), m_e40, eq_true (ix_nn h_e41), m_e41, hc43]; (repeat intro (_ : _ ≤ lim))
      refine SemF.ret rfl ?_
      try simp only [gE, ↓gT, ↓reduceIte, reduceCtorEq, reduceAdd, reduceEqDiff, reduceLeDiff, reduceLT, eq_true (ix_nn h_e37), m_e37, eq_true hc38, eq_true (ix_nn h_e39), m_e39, eq_true (ix_nn h_e40), m_e40, eq_true (ix_nn h_e41), m_e41, hc43]; (repeat intro (_ : _ ≤ lim))
      obtain rfl := Option.some.inj h
      refine hr _ rfl _ _ ?_
      simp only [gE, ↓gT, ↓reduceIte, reduceCtorEq, reduceAdd, reduceEqDiff, reduceLeDiff, reduceLT, RetP_def, eq_true (ix_nn h_e37), m_e37, eq_true hc38, eq_true (ix_nn h_e39), m_e39, eq_true (ix_nn h_e40), m_e40, eq_true (ix_nn h_e41), m_e41, hc43]
  · rw [if_neg hc38] at h
    refine SemF.cond rfl ?_
    simp only [gE, ↓gT, ↓reduceIte, reduceCtorEq, reduceAdd, reduceEqDiff, reduceLeDiff, reduceLT, eq_true (ix_nn h_e37), m_e37, eq_false hc38]
    refine SemF.exit rfl ?_
    simp only [gE, ↓gT, ↓reduceIte, reduceCtorEq, reduceAdd, reduceEqDiff, reduceLeDiff, reduceLT, eq_true (ix_nn h_e37), m_e37, eq_false hc38]
    obtain rfl := Option.some.inj h
    refine hx _ rfl _ _ [0, 1] ⟨by simp only [gE, ↓gT, ↓reduceIte, reduceCtorEq, reduceAdd, reduceEqDiff, reduceLeDiff, reduceLT, hwT, selS, erT, eq_true (ix_nn h_e37), m_e37, eq_false hc38], by decide, by decide, by simp only [gE, ↓gT, ↓reduceIte, reduceCtorEq, reduceAdd, reduceEqDiff, reduceLeDiff, reduceLT, hwT, selS, erT, subR, eq_true (ix_nn h_e37), m_e37, eq_false hc38], by simp only [gE, ↓gT, ↓reduceIte, reduceCtorEq, reduceAdd, reduceEqDiff, reduceLeDiff, reduceLT, hwT, selS, erT, scT, esT, eq_true (ix_nn h_e37), m_e37, eq_false hc38], by simp only [gE, ↓gT, ↓reduceIte, reduceCtorEq, reduceAdd, reduceEqDiff, reduceLeDiff, reduceLT, hwT, selS, erT, scT, esT, eq_true (ix_nn h_e37), m_e37, eq_false hc38]⟩
theorem spec_l3SameData_L0 : ∀ (x : (Data × Data × Int)) (out : (Sum Bool Unit)), M.spec_l3SameData_L0 x = some out → ∀ Q : HExit → Env → St → Prop, (∀ v, out = .inr v → ∀ env st sel, Weak 0 sel [] [] env st → Q (.exit 0) env st) → (∀ r, out = .inl r → ∀ env st, RetP [(4, none)] (HV.bool r) env st → Q .ret env st) → SemL P H.spec_l3SameData.ntmps 0 H.spec_l3SameData_l5 [(2, (.ptr 0 1 0 0)), (3, (.ptr 1 1 0 0)), (5, (.int .i64 x.2.2))] [(.box (Data.enc x.1)), (.box (Data.enc x.2.1))] Q := by
  refine M.spec_l3SameData_L0.partial_correctness (motive := fun x out => ∀ Q : HExit → Env → St → Prop, (∀ v, out = .inr v → ∀ env st sel, Weak 0 sel [] [] env st → Q (.exit 0) env st) → (∀ r, out = .inl r → ∀ env st, RetP [(4, none)] (HV.bool r) env st → Q .ret env st) → SemL P H.spec_l3SameData.ntmps 0 H.spec_l3SameData_l5 [(2, (.ptr 0 1 0 0)), (3, (.ptr 1 1 0 0)), (5, (.int .i64 x.2.2))] [(.box (Data.enc x.1)), (.box (Data.enc x.2.1))] Q) ?_
  intro f_spec_l3SameData_L0 ih_spec_l3SameData_L0 x out h
  obtain ⟨p0, p1, t5_L0⟩ := x
  try dsimp only at h
  intro Q hx hr
  refine SemL.round ?_
  try dsimp only at hx
  refine SemF.seq rfl ?_
  refine SemF.seq rfl ?_
  refine SemF.reg true rfl ?_
  try simp only [gE, ↓gT, ↓reduceIte, reduceCtorEq, reduceAdd, reduceEqDiff, reduceLeDiff, reduceLT]; (repeat intro (_ : _ ≤ lim))
  (repeat intro (_ : _ ≤ lim))
  by_cases hc25 : t5_L0 < ((p0.Cons.length : Nat) : Int)
  · rw [if_pos hc25] at h
    refine SemF.cond rfl ?_
    simp only [gE, ↓gT, ↓reduceIte, reduceCtorEq, reduceAdd, reduceEqDiff, reduceLeDiff, reduceLT, eq_true hc25]
    refine SemF.skip rfl ?_
    simp only [gE, ↓gT, ↓reduceIte, reduceCtorEq, reduceAdd, reduceEqDiff, reduceLeDiff, reduceLT, eq_true hc25]
    refine SemF.seq rfl ?_
    refine SemF.block rfl ?_
    refine SemF.seq rfl ?_
    refine SemF.seq rfl ?_
    refine SemF.dreg true rfl ?_
    try simp only [gE, ↓gT, ↓reduceIte, reduceCtorEq, reduceAdd, reduceEqDiff, reduceLeDiff, reduceLT, eq_true hc25]; (repeat intro (_ : _ ≤ lim))
    obtain ⟨e26, h_e26, h⟩ := bs h
    have m_e26 := ixm (f := Con.enc) (ix_get h_e26)
    try simp only [gE, ↓gT, ↓reduceIte, reduceCtorEq, reduceAdd, reduceEqDiff, reduceLeDiff, reduceLT, eq_true hc25, eq_true (ix_nn h_e26), m_e26]; (repeat intro (_ : _ ≤ lim))
    obtain ⟨e27, h_e27, h⟩ := bs h
    have m_e27 := ixm (f := Con.enc) (ix_get h_e27)
    try simp only [gE, ↓gT, ↓reduceIte, reduceCtorEq, reduceAdd, reduceEqDiff, reduceLeDiff, reduceLT, eq_true hc25, eq_true (ix_nn h_e26), m_e26, eq_true (ix_nn h_e27), m_e27]; (repeat intro (_ : _ ≤ lim))
    by_cases hc28 : e26.Name = e27.Name
    · rw [if_pos hc28] at h
      try simp only [gE, ↓gT, ↓reduceIte, reduceCtorEq, reduceAdd, reduceEqDiff, reduceLeDiff, reduceLT, eq_true hc25, eq_true (ix_nn h_e26), m_e26, eq_true (ix_nn h_e27), m_e27, eq_true hc28]; (repeat intro (_ : _ ≤ lim))
      (repeat intro (_ : _ ≤ lim))
      (repeat intro (_ : _ ≤ lim))
      by_cases hc29 : ((e26.Args.length : Nat) : Int) = ((e27.Args.length : Nat) : Int)
      · rw [if_pos hc29] at h
        refine SemF.cond rfl ?_
        simp only [gE, ↓gT, ↓reduceIte, reduceCtorEq, reduceAdd, reduceEqDiff, reduceLeDiff, reduceLT, eq_true hc25, eq_true (ix_nn h_e26), m_e26, eq_true (ix_nn h_e27), m_e27, eq_true hc28, eq_true hc29]
        refine SemF.skip rfl ?_
        simp only [gE, ↓gT, ↓reduceIte, reduceCtorEq, reduceAdd, reduceEqDiff, reduceLeDiff, reduceLT, eq_true hc25, eq_true (ix_nn h_e26), m_e26, eq_true (ix_nn h_e27), m_e27, eq_true hc28, eq_true hc29]
        refine SemF.seq rfl ?_
        refine SemF.reg true rfl ?_
        try simp only [gE, ↓gT, ↓reduceIte, reduceCtorEq, reduceAdd, reduceEqDiff, reduceLeDiff, reduceLT, eq_true hc25, eq_true (ix_nn h_e26), m_e26, eq_true (ix_nn h_e27), m_e27, eq_true hc28, eq_true hc29]; (repeat intro (_ : _ ≤ lim))
        refine SemF.block rfl ?_
        obtain ⟨s44, h_s44, h⟩ := bs h
        rcases s44 with r45 | v46
        · dsimp only at h
          refine SemF.loop rfl ?_
          refine SemL.weak (sel := [0, 1]) ⟨by simp only [gE, ↓gT, ↓reduceIte, reduceCtorEq, reduceAdd, reduceEqDiff, reduceLeDiff, reduceLT, hwT, selS, erT, eq_true hc25, eq_true (ix_nn h_e26), m_e26, eq_true (ix_nn h_e27), m_e27, eq_true hc28, eq_true hc29], by decide, by decide, by simp only [gE, ↓gT, ↓reduceIte, reduceCtorEq, reduceAdd, reduceEqDiff, reduceLeDiff, reduceLT, hwT, selS, erT, subR, eq_true hc25, eq_true (ix_nn h_e26), m_e26, eq_true (ix_nn h_e27), m_e27, eq_true hc28, eq_true hc29], by simp only [gE, ↓gT, ↓reduceIte, reduceCtorEq, reduceAdd, reduceEqDiff, reduceLeDiff, reduceLT, hwT, selS, erT, scT, esT, eq_true hc25, eq_true (ix_nn h_e26), m_e26, eq_true (ix_nn h_e27), m_e27, eq_true hc28, eq_true hc29], by simp only [gE, ↓gT, ↓reduceIte, reduceCtorEq, reduceAdd, reduceEqDiff, reduceLeDiff, reduceLT, hwT, selS, erT, scT, esT, eq_true hc25, eq_true (ix_nn h_e26), m_e26, eq_true (ix_nn h_e27), m_e27, eq_true hc28, eq_true hc29]⟩ (K.spec_l3SameData_L1 (t5_L0, p0, p1, 0) (.inl r45) h_s44 _ ?_ ?_)
          · intro v hv; cases hv
          · intro r' hr' env st hy
            cases hr'
            simp only [gE, ↓gT, ↓reduceIte, reduceCtorEq, reduceAdd, reduceEqDiff, reduceLeDiff, reduceLT]
            obtain rfl := Option.some.inj h
            exact hr _ rfl _ _ hy
        · dsimp only at h
          refine SemF.loop rfl ?_
          refine SemL.weak (sel := [0, 1]) ⟨by simp only [gE, ↓gT, ↓reduceIte, reduceCtorEq, reduceAdd, reduceEqDiff, reduceLeDiff, reduceLT, hwT, selS, erT, eq_true hc25, eq_true (ix_nn h_e26), m_e26, eq_true (ix_nn h_e27), m_e27, eq_true hc28, eq_true hc29], by decide, by decide, by simp only [gE, ↓gT, ↓reduceIte, reduceCtorEq, reduceAdd, reduceEqDiff, reduceLeDiff, reduceLT, hwT, selS, erT, subR, eq_true hc25, eq_true (ix_nn h_e26), m_e26, eq_true (ix_nn h_e27), m_e27, eq_true hc28, eq_true hc29], by simp only [gE, ↓gT, ↓reduceIte, reduceCtorEq, reduceAdd, reduceEqDiff, reduceLeDiff, reduceLT, hwT, selS, erT, scT, esT, eq_true hc25, eq_true (ix_nn h_e26), m_e26, eq_true (ix_nn h_e27), m_e27, eq_true hc28, eq_true hc29], by simp only [gE, ↓gT, ↓reduceIte, reduceCtorEq, reduceAdd, reduceEqDiff, reduceLeDiff, reduceLT, hwT, selS, erT, scT, esT, eq_true hc25, eq_true (ix_nn h_e26), m_e26, eq_true (ix_nn h_e27), m_e27, eq_true hc28, eq_true hc29]⟩ (K.spec_l3SameData_L1 (t5_L0, p0, p1, 0) (.inr v46) h_s44 _ ?_ ?_)
          rotate_left
          · intro r' hr'; cases hr'
          intro v hv env st sel hw
          cases hv
          simp only [gE, ↓gT, ↓reduceIte, reduceCtorEq, reduceAdd, reduceEqDiff, reduceLeDiff, reduceLT]
          first | refine SemF.weak hw ?_ | refine SemL.weak hw ?_
          refine SemF.reg true rfl ?_
          try simp only [gE, ↓gT, ↓reduceIte, reduceCtorEq, reduceAdd, reduceEqDiff, reduceLeDiff, reduceLT, eq_true hc25, eq_true (ix_nn h_e26), m_e26, eq_true (ix_nn h_e27), m_e27, eq_true hc28, eq_true hc29]; (repeat intro (_ : _ ≤ lim))
          refine SemL.weak (sel := [0, 1]) ⟨by simp only [gE, ↓gT, ↓reduceIte, reduceCtorEq, reduceAdd, reduceEqDiff, reduceLeDiff, reduceLT, hwT, selS, erT, eq_true hc25, eq_true (ix_nn h_e26), m_e26, eq_true (ix_nn h_e27), m_e27, eq_true hc28, eq_true hc29], by decide, by decide, by simp only [gE, ↓gT, ↓reduceIte, reduceCtorEq, reduceAdd, reduceEqDiff, reduceLeDiff, reduceLT, hwT, selS, erT, subR, eq_true hc25, eq_true (ix_nn h_e26), m_e26, eq_true (ix_nn h_e27), m_e27, eq_true hc28, eq_true hc29], by simp only [gE, ↓gT, ↓reduceIte, reduceCtorEq, reduceAdd, reduceEqDiff, reduceLeDiff, reduceLT, hwT, selS, erT, scT, esT, eq_true hc25, eq_true (ix_nn h_e26), m_e26, eq_true (ix_nn h_e27), m_e27, eq_true hc28, eq_true hc29], by simp only [gE, ↓gT, ↓reduceIte, reduceCtorEq, reduceAdd, reduceEqDiff, reduceLeDiff, reduceLT, hwT, selS, erT, scT, esT, eq_true hc25, eq_true (ix_nn h_e26), m_e26, eq_true (ix_nn h_e27), m_e27, eq_true hc28, eq_true hc29]⟩ (ih_spec_l3SameData_L0 (p0, p1, (IntKind.i64.wrap (t5_L0 + 1))) out h Q hx hr)
      · rw [if_neg hc29] at h
        refine SemF.cond rfl ?_
        simp only [gE, ↓gT, ↓reduceIte, reduceCtorEq, reduceAdd, reduceEqDiff, reduceLeDiff, reduceLT, eq_true hc25, eq_true (ix_nn h_e26), m_e26, eq_true (ix_nn h_e27), m_e27, eq_true hc28, eq_false hc29]
        refine SemF.seq rfl ?_
        refine SemF.reg true rfl ?_
        try simp only [gE, ↓gT, ↓reduceIte, reduceCtorEq, reduceAdd, reduceEqDiff, reduceLeDiff, reduceLT, eq_true hc25, eq_true (ix_nn h_e26), m_e26, eq_true (ix_nn h_e27), m_e27, eq_true hc28, eq_false hc29]; (repeat intro (_ : _ ≤ lim))
        refine SemF.ret rfl ?_
        try simp only [gE, ↓gT, ↓reduceIte, reduceCtorEq, reduceAdd, reduceEqDiff, reduceLeDiff, reduceLT, eq_true hc25, eq_true (ix_nn h_e26), m_e26, eq_true (ix_nn h_e27), m_e27, eq_true hc28, eq_false hc29]; (repeat intro (_ : _ ≤ lim))
        obtain rfl := Option.some.inj h
        refine hr _ rfl _ _ ?_
        simp only [gE, ↓gT, ↓reduceIte, reduceCtorEq, reduceAdd, reduceEqDiff, reduceLeDiff, reduceLT, RetP_def, eq_true hc25, eq_true (ix_nn h_e26), m_e26, eq_true (ix_nn h_e27), m_e27, eq_true hc28, eq_false hc29]
    · rw [if_neg hc28] at h
      try simp only [gE, ↓gT, ↓reduceIte, reduceCtorEq, reduceAdd, reduceEqDiff, reduceLeDiff, reduceLT, eq_true hc25, eq_true (ix_nn h_e26), m_e26, eq_true (ix_nn h_e27), m_e27, eq_false hc28]; (repeat intro (_ : _ ≤ lim))
      refine SemF.cond rfl ?_
      simp only [gE, ↓gT, ↓reduceIte, reduceCtorEq, reduceAdd, reduceEqDiff, reduceLeDiff, reduceLT, eq_true hc25, eq_true (ix_nn h_e26), m_e26, eq_true (ix_nn h_e27), m_e27, eq_false hc28]
      refine SemF.seq rfl ?_
      refine SemF.reg true rfl ?_
      try simp only [gE, ↓gT, ↓reduceIte, reduceCtorEq, reduceAdd, reduceEqDiff, reduceLeDiff, reduceLT, eq_true hc25, eq_true (ix_nn h_e26), m_e26, eq_true (ix_nn h_e27), m_e27, eq_false hc28]; (repeat intro (_ : _ ≤ lim))
      refine SemF.ret rfl ?_
      try simp only [gE, ↓gT, ↓reduceIte, reduceCtorEq, reduceAdd, reduceEqDiff, reduceLeDiff, reduceLT, eq_true hc25, eq_true (ix_nn h_e26), m_e26, eq_true (ix_nn h_e27), m_e27, eq_false hc28]; (repeat intro (_ : _ ≤ lim))
      obtain rfl := Option.some.inj h
      refine hr _ rfl _ _ ?_
      simp only [gE, ↓gT, ↓reduceIte, reduceCtorEq, reduceAdd, reduceEqDiff, reduceLeDiff, reduceLT, RetP_def, eq_true hc25, eq_true (ix_nn h_e26), m_e26, eq_true (ix_nn h_e27), m_e27, eq_false hc28]
  · rw [if_neg hc25] at h
    refine SemF.cond rfl ?_
    simp only [gE, ↓gT, ↓reduceIte, reduceCtorEq, reduceAdd, reduceEqDiff, reduceLeDiff, reduceLT, eq_false hc25]
    refine SemF.exit rfl ?_
    simp only [gE, ↓gT, ↓reduceIte, reduceCtorEq, reduceAdd, reduceEqDiff, reduceLeDiff, reduceLT, eq_false hc25]
    obtain rfl := Option.some.inj h
    refine hx _ rfl _ _ [] ⟨by simp only [gE, ↓gT, ↓reduceIte, reduceCtorEq, reduceAdd, reduceEqDiff, reduceLeDiff, reduceLT, hwT, selS, erT, eq_false hc25], by decide, by decide, by simp only [gE, ↓gT, ↓reduceIte, reduceCtorEq, reduceAdd, reduceEqDiff, reduceLeDiff, reduceLT, hwT, selS, erT, subR, eq_false hc25], by simp only [gE, ↓gT, ↓reduceIte, reduceCtorEq, reduceAdd, reduceEqDiff, reduceLeDiff, reduceLT, hwT, selS, erT, scT, esT, eq_false hc25], by simp only [gE, ↓gT, ↓reduceIte, reduceCtorEq, reduceAdd, reduceEqDiff, reduceLeDiff, reduceLT, hwT, selS, erT, scT, esT, eq_false hc25]⟩
theorem spec_l3SameData : ∀ (x : (Data × Data)) (r : Bool), M.spec_l3SameData x = some r → HCp P F.spec_l3SameData [(Data.enc x.1), (Data.enc x.2)] (HV.bool r) := by
  intro x r h
  obtain ⟨p0, p1⟩ := x
  unfold M.spec_l3SameData at h
  try dsimp only at h
  refine HCp.mkF S.spec_l3SameData (by simp [H.spec_l3SameData]) (by simp only [scT, esT, and_self, true_and, and_true]) ?_
  simp only [gE, ↓gT, ↓reduceIte, reduceCtorEq, reduceAdd, reduceEqDiff, reduceLeDiff, reduceLT, H.spec_l3SameData]
  refine SemF.seq rfl ?_
  refine SemF.reg true rfl ?_
  try simp only [gE, ↓gT, ↓reduceIte, reduceCtorEq, reduceAdd, reduceEqDiff, reduceLeDiff, reduceLT]; (repeat intro (_ : _ ≤ lim))
  refine SemF.seq rfl ?_
  refine SemF.seq rfl ?_
  refine SemF.reg true rfl ?_
  try simp only [gE, ↓gT, ↓reduceIte, reduceCtorEq, reduceAdd, reduceEqDiff, reduceLeDiff, reduceLT]; (repeat intro (_ : _ ≤ lim))
  by_cases hc1 : p0.Name = p1.Name
  · rw [if_pos hc1] at h
    try simp only [gE, ↓gT, ↓reduceIte, reduceCtorEq, reduceAdd, reduceEqDiff, reduceLeDiff, reduceLT, eq_true hc1]; (repeat intro (_ : _ ≤ lim))
    (repeat intro (_ : _ ≤ lim))
    (repeat intro (_ : _ ≤ lim))
    by_cases hc2 : ((p0.Cons.length : Nat) : Int) = ((p1.Cons.length : Nat) : Int)
    · rw [if_pos hc2] at h
      refine SemF.cond rfl ?_
      simp only [gE, ↓gT, ↓reduceIte, reduceCtorEq, reduceAdd, reduceEqDiff, reduceLeDiff, reduceLT, eq_true hc1, eq_true hc2]
      refine SemF.skip rfl ?_
      simp only [gE, ↓gT, ↓reduceIte, reduceCtorEq, reduceAdd, reduceEqDiff, reduceLeDiff, reduceLT, eq_true hc1, eq_true hc2]
      refine SemF.seq rfl ?_
      refine SemF.seq rfl ?_
      refine SemF.reg true rfl ?_
      try simp only [gE, ↓gT, ↓reduceIte, reduceCtorEq, reduceAdd, reduceEqDiff, reduceLeDiff, reduceLT, eq_true hc1, eq_true hc2]; (repeat intro (_ : _ ≤ lim))
      refine SemF.block rfl ?_
      obtain ⟨s47, h_s47, h⟩ := bs h
      rcases s47 with r48 | v49
      · dsimp only at h
        refine SemF.loop rfl ?_
        refine SemL.weak (sel := [0, 1]) ⟨by simp only [gE, ↓gT, ↓reduceIte, reduceCtorEq, reduceAdd, reduceEqDiff, reduceLeDiff, reduceLT, hwT, selS, erT, eq_true hc1, eq_true hc2], by decide, by decide, by simp only [gE, ↓gT, ↓reduceIte, reduceCtorEq, reduceAdd, reduceEqDiff, reduceLeDiff, reduceLT, hwT, selS, erT, subR, eq_true hc1, eq_true hc2], by simp only [gE, ↓gT, ↓reduceIte, reduceCtorEq, reduceAdd, reduceEqDiff, reduceLeDiff, reduceLT, hwT, selS, erT, scT, esT, eq_true hc1, eq_true hc2], by simp only [gE, ↓gT, ↓reduceIte, reduceCtorEq, reduceAdd, reduceEqDiff, reduceLeDiff, reduceLT, hwT, selS, erT, scT, esT, eq_true hc1, eq_true hc2]⟩ (K.spec_l3SameData_L0 (p0, p1, 0) (.inl r48) h_s47 _ ?_ ?_)
        · intro v hv; cases hv
        · intro r' hr' env st hy
          cases hr'
          simp only [gE, ↓gT, ↓reduceIte, reduceCtorEq, reduceAdd, reduceEqDiff, reduceLeDiff, reduceLT]
          obtain rfl := Option.some.inj h
          exact hy
      · dsimp only at h
        refine SemF.loop rfl ?_
        refine SemL.weak (sel := [0, 1]) ⟨by simp only [gE, ↓gT, ↓reduceIte, reduceCtorEq, reduceAdd, reduceEqDiff, reduceLeDiff, reduceLT, hwT, selS, erT, eq_true hc1, eq_true hc2], by decide, by decide, by simp only [gE, ↓gT, ↓reduceIte, reduceCtorEq, reduceAdd, reduceEqDiff, reduceLeDiff, reduceLT, hwT, selS, erT, subR, eq_true hc1, eq_true hc2], by simp only [gE, ↓gT, ↓reduceIte, reduceCtorEq, reduceAdd, reduceEqDiff, reduceLeDiff, reduceLT, hwT, selS, erT, scT, esT, eq_true hc1, eq_true hc2], by simp only [gE, ↓gT, ↓reduceIte, reduceCtorEq, reduceAdd, reduceEqDiff, reduceLeDiff, reduceLT, hwT, selS, erT, scT, esT, eq_true hc1, eq_true hc2]⟩ (K.spec_l3SameData_L0 (p0, p1, 0) (.inr v49) h_s47 _ ?_ ?_)
        rotate_left
        · intro r' hr'; cases hr'
        intro v hv env st sel hw
        cases hv
        simp only [gE, ↓gT, ↓reduceIte, reduceCtorEq, reduceAdd, reduceEqDiff, reduceLeDiff, reduceLT]
        first | refine SemF.weak hw ?_ | refine SemL.weak hw ?_
        refine SemF.seq rfl ?_
        refine SemF.reg true rfl ?_
        try simp only [gE, ↓gT, ↓reduceIte, reduceCtorEq, reduceAdd, reduceEqDiff, reduceLeDiff, reduceLT, eq_true hc1, eq_true hc2]; (repeat intro (_ : _ ≤ lim))
        refine SemF.ret rfl ?_
        try simp only [gE, ↓gT, ↓reduceIte, reduceCtorEq, reduceAdd, reduceEqDiff, reduceLeDiff, reduceLT, eq_true hc1, eq_true hc2]; (repeat intro (_ : _ ≤ lim))
        obtain rfl := Option.some.inj h
        simp only [gE, ↓gT, ↓reduceIte, reduceCtorEq, reduceAdd, reduceEqDiff, reduceLeDiff, reduceLT, RetP_def, eq_true hc1, eq_true hc2]
    · rw [if_neg hc2] at h
      refine SemF.cond rfl ?_
      simp only [gE, ↓gT, ↓reduceIte, reduceCtorEq, reduceAdd, reduceEqDiff, reduceLeDiff, reduceLT, eq_true hc1, eq_false hc2]
      refine SemF.seq rfl ?_
      refine SemF.reg true rfl ?_
      try simp only [gE, ↓gT, ↓reduceIte, reduceCtorEq, reduceAdd, reduceEqDiff, reduceLeDiff, reduceLT, eq_true hc1, eq_false hc2]; (repeat intro (_ : _ ≤ lim))
      refine SemF.ret rfl ?_
      try simp only [gE, ↓gT, ↓reduceIte, reduceCtorEq, reduceAdd, reduceEqDiff, reduceLeDiff, reduceLT, eq_true hc1, eq_false hc2]; (repeat intro (_ : _ ≤ lim))
      obtain rfl := Option.some.inj h
      simp only [gE, ↓gT, ↓reduceIte, reduceCtorEq, reduceAdd, reduceEqDiff, reduceLeDiff, reduceLT, RetP_def, eq_true hc1, eq_false hc2]
  · rw [if_neg hc1] at h
    try simp only [gE, ↓gT, ↓reduceIte, reduceCtorEq, reduceAdd, reduceEqDiff, reduceLeDiff, reduceLT, eq_false hc1]; (repeat intro (_ : _ ≤ lim))
    refine SemF.cond rfl ?_
    simp only [gE, ↓gT, ↓reduceIte, reduceCtorEq, reduceAdd, reduceEqDiff, reduceLeDiff, reduceLT, eq_false hc1]
    refine SemF.seq rfl ?_
    refine SemF.reg true rfl ?_
    try simp only [gE, ↓gT, ↓reduceIte, reduceCtorEq, reduceAdd, reduceEqDiff, reduceLeDiff, reduceLT, eq_false hc1]; (repeat intro (_ : _ ≤ lim))
    refine SemF.ret rfl ?_
    try simp only [gE, ↓gT, ↓reduceIte, reduceCtorEq, reduceAdd, reduceEqDiff, reduceLeDiff, reduceLT, eq_false hc1]; (repeat intro (_ : _ ≤ lim))
    obtain rfl := Option.some.inj h
    simp only [gE, ↓gT, ↓reduceIte, reduceCtorEq, reduceAdd, reduceEqDiff, reduceLeDiff, reduceLT, RetP_def, eq_false hc1]
end K
end W
