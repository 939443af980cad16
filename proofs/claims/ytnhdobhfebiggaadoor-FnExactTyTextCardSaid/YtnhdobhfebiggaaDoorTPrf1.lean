import Derived.Test.YtnhdobhfebiggaaDoorTPrf0
namespace W
set_option linter.unusedSimpArgs false
set_option linter.unusedVariables false
open Go HL S
open Nat (reduceAdd reduceEqDiff reduceLeDiff reduceSub reduceMul reduceLT)
set_option linter.unusedVariables false
set_option maxRecDepth 100000
set_option maxHeartbeats 4000000
namespace K
theorem laws_szTyS_step (f_laws_szTyS_L0 : ((List Ty) × Int × Int) → Option (Sum Int Int)) (ih_laws_szTyS_L0 : ∀ (x : ((List Ty) × Int × Int)) (out : (Sum Int Int)), f_laws_szTyS_L0 x = some out → ∀ Q : HExit → Env → St → Prop, (∀ v, out = .inr v → ∀ env st sel, Weak 0 sel [(1, (.int .i64 v))] [] env st → Q (.exit 0) env st) → (∀ r, out = .inl r → ∀ env st, RetP [(4, none)] (HV.int .i64 r) env st → Q .ret env st) → SemL P H.laws_szTyS.ntmps 0 H.laws_szTyS_l6 [(0, (.sl (List.map Ty.enc x.1))), (1, (.int .i64 x.2.1)), (5, (.int .i64 x.2.2))] [] Q) (x : ((List Ty) × Int)) (r : Int) (h : (if (IntKind.i64.wrap (x.2 - ((x.1.length : Nat) : Int))) < 0 then some (-1) else
    (f_laws_szTyS_L0 (x.1, (IntKind.i64.wrap (x.2 - ((x.1.length : Nat) : Int))), 0) >>= fun s10 =>
    (match s10 with
    | .inl r11 => some r11
    | .inr v12 => some v12))) = some r) : HCp P F.laws_szTyS [(.sl (List.map Ty.enc x.1)), (.int .i64 x.2)] (HV.int .i64 r) := by
  obtain ⟨p0, p1⟩ := x
  try dsimp only at h
  refine HCp.mkF S.laws_szTyS (by simp [H.laws_szTyS]) (by simp only [scT, esT, and_self, true_and, and_true]) ?_
  simp only [gE, ↓gT, ↓reduceIte, reduceCtorEq, reduceAdd, reduceEqDiff, reduceLeDiff, reduceLT, H.laws_szTyS]
  refine SemF.seq rfl ?_
  refine SemF.reg true rfl ?_
  try simp only [gE, ↓gT, ↓reduceIte, reduceCtorEq, reduceAdd, reduceEqDiff, reduceLeDiff, reduceLT]; (repeat intro (_ : _ ≤ lim))
  refine SemF.seq rfl ?_
  refine SemF.reg true rfl ?_
  try simp only [gE, ↓gT, ↓reduceIte, reduceCtorEq, reduceAdd, reduceEqDiff, reduceLeDiff, reduceLT]; (repeat intro (_ : _ ≤ lim))
  (repeat intro (_ : _ ≤ lim))
  refine SemF.seq rfl ?_
  refine SemF.seq rfl ?_
  refine SemF.reg true rfl ?_
  try simp only [gE, ↓gT, ↓reduceIte, reduceCtorEq, reduceAdd, reduceEqDiff, reduceLeDiff, reduceLT]; (repeat intro (_ : _ ≤ lim))
  by_cases hc1 : (IntKind.i64.wrap (p1 - ((p0.length : Nat) : Int))) < 0
  · rw [if_pos hc1] at h
    refine SemF.cond rfl ?_
    simp only [gE, ↓gT, ↓reduceIte, reduceCtorEq, reduceAdd, reduceEqDiff, reduceLeDiff, reduceLT, eq_true hc1]
    refine SemF.seq rfl ?_
    refine SemF.reg true rfl ?_
    try simp only [gE, ↓gT, ↓reduceIte, reduceCtorEq, reduceAdd, reduceEqDiff, reduceLeDiff, reduceLT, eq_true hc1]; (repeat intro (_ : _ ≤ lim))
    refine SemF.ret rfl ?_
    try simp only [gE, ↓gT, ↓reduceIte, reduceCtorEq, reduceAdd, reduceEqDiff, reduceLeDiff, reduceLT, eq_true hc1]; (repeat intro (_ : _ ≤ lim))
    obtain rfl := Option.some.inj h
    simp only [gE, ↓gT, ↓reduceIte, reduceCtorEq, reduceAdd, reduceEqDiff, reduceLeDiff, reduceLT, RetP_def, eq_true hc1]
  · rw [if_neg hc1] at h
    refine SemF.cond rfl ?_
    simp only [gE, ↓gT, ↓reduceIte, reduceCtorEq, reduceAdd, reduceEqDiff, reduceLeDiff, reduceLT, eq_false hc1]
    refine SemF.skip rfl ?_
    simp only [gE, ↓gT, ↓reduceIte, reduceCtorEq, reduceAdd, reduceEqDiff, reduceLeDiff, reduceLT, eq_false hc1]
    refine SemF.seq rfl ?_
    refine SemF.seq rfl ?_
    refine SemF.reg true rfl ?_
    try simp only [gE, ↓gT, ↓reduceIte, reduceCtorEq, reduceAdd, reduceEqDiff, reduceLeDiff, reduceLT, eq_false hc1]; (repeat intro (_ : _ ≤ lim))
    refine SemF.block rfl ?_
    obtain ⟨s10, h_s10, h⟩ := bs h
    rcases s10 with r11 | v12
    · dsimp only at h
      refine SemF.loop rfl ?_
      refine SemL.weak (sel := []) ⟨by simp only [gE, ↓gT, ↓reduceIte, reduceCtorEq, reduceAdd, reduceEqDiff, reduceLeDiff, reduceLT, hwT, selS, erT, eq_false hc1], by decide, by decide, by simp only [gE, ↓gT, ↓reduceIte, reduceCtorEq, reduceAdd, reduceEqDiff, reduceLeDiff, reduceLT, hwT, selS, erT, subR, eq_false hc1], by simp only [gE, ↓gT, ↓reduceIte, reduceCtorEq, reduceAdd, reduceEqDiff, reduceLeDiff, reduceLT, hwT, selS, erT, scT, esT, eq_false hc1], by simp only [gE, ↓gT, ↓reduceIte, reduceCtorEq, reduceAdd, reduceEqDiff, reduceLeDiff, reduceLT, hwT, selS, erT, scT, esT, eq_false hc1]⟩ (ih_laws_szTyS_L0 (p0, (IntKind.i64.wrap (p1 - ((p0.length : Nat) : Int))), 0) (.inl r11) h_s10 _ ?_ ?_)
      · intro v hv; cases hv
      · intro r' hr' env st hy
        cases hr'
        simp only [gE, ↓gT, ↓reduceIte, reduceCtorEq, reduceAdd, reduceEqDiff, reduceLeDiff, reduceLT]
        obtain rfl := Option.some.inj h
        exact hy
    · dsimp only at h
      refine SemF.loop rfl ?_
      refine SemL.weak (sel := []) ⟨by simp only [gE, ↓gT, ↓reduceIte, reduceCtorEq, reduceAdd, reduceEqDiff, reduceLeDiff, reduceLT, hwT, selS, erT, eq_false hc1], by decide, by decide, by simp only [gE, ↓gT, ↓reduceIte, reduceCtorEq, reduceAdd, reduceEqDiff, reduceLeDiff, reduceLT, hwT, selS, erT, subR, eq_false hc1], by simp only [gE, ↓gT, ↓reduceIte, reduceCtorEq, reduceAdd, reduceEqDiff, reduceLeDiff, reduceLT, hwT, selS, erT, scT, esT, eq_false hc1], by simp only [gE, ↓gT, ↓reduceIte, reduceCtorEq, reduceAdd, reduceEqDiff, reduceLeDiff, reduceLT, hwT, selS, erT, scT, esT, eq_false hc1]⟩ (ih_laws_szTyS_L0 (p0, (IntKind.i64.wrap (p1 - ((p0.length : Nat) : Int))), 0) (.inr v12) h_s10 _ ?_ ?_)
      rotate_left
      · intro r' hr'; cases hr'
      intro v hv env st sel hw
      cases hv
      simp only [gE, ↓gT, ↓reduceIte, reduceCtorEq, reduceAdd, reduceEqDiff, reduceLeDiff, reduceLT]
      first | refine SemF.weak hw ?_ | refine SemL.weak hw ?_
      refine SemF.seq rfl ?_
      refine SemF.reg true rfl ?_
      try simp only [gE, ↓gT, ↓reduceIte, reduceCtorEq, reduceAdd, reduceEqDiff, reduceLeDiff, reduceLT, eq_false hc1]; (repeat intro (_ : _ ≤ lim))
      refine SemF.ret rfl ?_
      try simp only [gE, ↓gT, ↓reduceIte, reduceCtorEq, reduceAdd, reduceEqDiff, reduceLeDiff, reduceLT, eq_false hc1]; (repeat intro (_ : _ ≤ lim))
      obtain rfl := Option.some.inj h
      simp only [gE, ↓gT, ↓reduceIte, reduceCtorEq, reduceAdd, reduceEqDiff, reduceLeDiff, reduceLT, RetP_def, eq_false hc1]
theorem laws_szTyS_L0_step (f_laws_szTy : (Ty × Int) → Option Int) (f_laws_szTyS_L0 : ((List Ty) × Int × Int) → Option (Sum Int Int)) (ih_laws_szTy : ∀ (x : (Ty × Int)) (r : Int), f_laws_szTy x = some r → HCp P F.laws_szTy [(Ty.enc x.1), (.int .i64 x.2)] (HV.int .i64 r)) (ih_laws_szTyS_L0 : ∀ (x : ((List Ty) × Int × Int)) (out : (Sum Int Int)), f_laws_szTyS_L0 x = some out → ∀ Q : HExit → Env → St → Prop, (∀ v, out = .inr v → ∀ env st sel, Weak 0 sel [(1, (.int .i64 v))] [] env st → Q (.exit 0) env st) → (∀ r, out = .inl r → ∀ env st, RetP [(4, none)] (HV.int .i64 r) env st → Q .ret env st) → SemL P H.laws_szTyS.ntmps 0 H.laws_szTyS_l6 [(0, (.sl (List.map Ty.enc x.1))), (1, (.int .i64 x.2.1)), (5, (.int .i64 x.2.2))] [] Q) (x : ((List Ty) × Int × Int)) (out : (Sum Int Int)) (h : (if x.2.2 < ((x.1.length : Nat) : Int) then (ix x.1 x.2.2 >>= fun e7 =>
    (f_laws_szTy (e7, x.2.1) >>= fun r8 =>
    (if r8 < 0 then some (.inl (-1)) else
    f_laws_szTyS_L0 (x.1, r8, (IntKind.i64.wrap (x.2.2 + 1)))))) else
    some (.inr x.2.1)) = some out) : ∀ Q : HExit → Env → St → Prop, (∀ v, out = .inr v → ∀ env st sel, Weak 0 sel [(1, (.int .i64 v))] [] env st → Q (.exit 0) env st) → (∀ r, out = .inl r → ∀ env st, RetP [(4, none)] (HV.int .i64 r) env st → Q .ret env st) → SemL P H.laws_szTyS.ntmps 0 H.laws_szTyS_l6 [(0, (.sl (List.map Ty.enc x.1))), (1, (.int .i64 x.2.1)), (5, (.int .i64 x.2.2))] [] Q := by
  obtain ⟨p0, t1_L0, t5_L0⟩ := x
  try dsimp only at h
  intro Q hx hr
  refine SemL.round ?_
  try dsimp only at hx
  refine SemF.seq rfl ?_
  refine SemF.seq rfl ?_
  refine SemF.reg true rfl ?_
  try simp only [gE, ↓gT, ↓reduceIte, reduceCtorEq, reduceAdd, reduceEqDiff, reduceLeDiff, reduceLT]; (repeat intro (_ : _ ≤ lim))
  (repeat intro (_ : _ ≤ lim))
  by_cases hc6 : t5_L0 < ((p0.length : Nat) : Int)
  · rw [if_pos hc6] at h
    refine SemF.cond rfl ?_
    simp only [gE, ↓gT, ↓reduceIte, reduceCtorEq, reduceAdd, reduceEqDiff, reduceLeDiff, reduceLT, eq_true hc6]
    refine SemF.skip rfl ?_
    simp only [gE, ↓gT, ↓reduceIte, reduceCtorEq, reduceAdd, reduceEqDiff, reduceLeDiff, reduceLT, eq_true hc6]
    refine SemF.seq rfl ?_
    refine SemF.block rfl ?_
    refine SemF.seq rfl ?_
    refine SemF.reg true rfl ?_
    try simp only [gE, ↓gT, ↓reduceIte, reduceCtorEq, reduceAdd, reduceEqDiff, reduceLeDiff, reduceLT, eq_true hc6]; (repeat intro (_ : _ ≤ lim))
    obtain ⟨e7, h_e7, h⟩ := bs h
    have m_e7 := ixm (f := Ty.enc) (ix_get h_e7)
    try simp only [gE, ↓gT, ↓reduceIte, reduceCtorEq, reduceAdd, reduceEqDiff, reduceLeDiff, reduceLT, eq_true hc6, eq_true (ix_nn h_e7), m_e7]; (repeat intro (_ : _ ≤ lim))
    obtain ⟨r8, h_r8, h⟩ := bs h
    refine HCp.callE (ih_laws_szTy (e7, t1_L0) r8 h_r8) (by simp only [gE, ↓gT, ↓reduceIte, reduceCtorEq, reduceAdd, reduceEqDiff, reduceLeDiff, reduceLT, eq_true hc6, eq_true (ix_nn h_e7), m_e7]) (by simp only [scT, esT, and_self, true_and, and_true]) (by simp only [scT, esT, and_self, true_and, and_true]) ?_
    try simp only [gE, ↓gT, ↓reduceIte, reduceCtorEq, reduceAdd, reduceEqDiff, reduceLeDiff, reduceLT, eq_true hc6, eq_true (ix_nn h_e7), m_e7]; (repeat intro (_ : _ ≤ lim))
    refine SemF.seq rfl ?_
    refine SemF.reg true rfl ?_
    try simp only [gE, ↓gT, ↓reduceIte, reduceCtorEq, reduceAdd, reduceEqDiff, reduceLeDiff, reduceLT, eq_true hc6, eq_true (ix_nn h_e7), m_e7]; (repeat intro (_ : _ ≤ lim))
    by_cases hc9 : r8 < 0
    · rw [if_pos hc9] at h
      refine SemF.cond rfl ?_
      simp only [gE, ↓gT, ↓reduceIte, reduceCtorEq, reduceAdd, reduceEqDiff, reduceLeDiff, reduceLT, eq_true hc6, eq_true (ix_nn h_e7), m_e7, eq_true hc9]
      refine SemF.seq rfl ?_
      refine SemF.reg true rfl ?_
      try simp only [gE, ↓gT, ↓reduceIte, reduceCtorEq, reduceAdd, reduceEqDiff, reduceLeDiff, reduceLT, eq_true hc6, eq_true (ix_nn h_e7), m_e7, eq_true hc9]; (repeat intro (_ : _ ≤ lim))
      refine SemF.ret rfl ?_
      try simp only [gE, ↓gT, ↓reduceIte, reduceCtorEq, reduceAdd, reduceEqDiff, reduceLeDiff, reduceLT, eq_true hc6, eq_true (ix_nn h_e7), m_e7, eq_true hc9]; (repeat intro (_ : _ ≤ lim))
      obtain rfl := Option.some.inj h
      refine hr _ rfl _ _ ?_
      simp only [gE, ↓gT, ↓reduceIte, reduceCtorEq, reduceAdd, reduceEqDiff, reduceLeDiff, reduceLT, RetP_def, eq_true hc6, eq_true (ix_nn h_e7), m_e7, eq_true hc9]
    · rw [if_neg hc9] at h
      refine SemF.cond rfl ?_
      simp only [gE, ↓gT, ↓reduceIte, reduceCtorEq, reduceAdd, reduceEqDiff, reduceLeDiff, reduceLT, eq_true hc6, eq_true (ix_nn h_e7), m_e7, eq_false hc9]
      refine SemF.skip rfl ?_
      simp only [gE, ↓gT, ↓reduceIte, reduceCtorEq, reduceAdd, reduceEqDiff, reduceLeDiff, reduceLT, eq_true hc6, eq_true (ix_nn h_e7), m_e7, eq_false hc9]
      refine SemF.reg true rfl ?_
      try simp only [gE, ↓gT, ↓reduceIte, reduceCtorEq, reduceAdd, reduceEqDiff, reduceLeDiff, reduceLT, eq_true hc6, eq_true (ix_nn h_e7), m_e7, eq_false hc9]; (repeat intro (_ : _ ≤ lim))
      refine SemL.weak (sel := []) ⟨by simp only [gE, ↓gT, ↓reduceIte, reduceCtorEq, reduceAdd, reduceEqDiff, reduceLeDiff, reduceLT, hwT, selS, erT, eq_true hc6, eq_true (ix_nn h_e7), m_e7, eq_false hc9], by decide, by decide, by simp only [gE, ↓gT, ↓reduceIte, reduceCtorEq, reduceAdd, reduceEqDiff, reduceLeDiff, reduceLT, hwT, selS, erT, subR, eq_true hc6, eq_true (ix_nn h_e7), m_e7, eq_false hc9], by simp only [gE, ↓gT, ↓reduceIte, reduceCtorEq, reduceAdd, reduceEqDiff, reduceLeDiff, reduceLT, hwT, selS, erT, scT, esT, eq_true hc6, eq_true (ix_nn h_e7), m_e7, eq_false hc9], by simp only [gE, ↓gT, ↓reduceIte, reduceCtorEq, reduceAdd, reduceEqDiff, reduceLeDiff, reduceLT, hwT, selS, erT, scT, esT, eq_true hc6, eq_true (ix_nn h_e7), m_e7, eq_false hc9]⟩ (ih_laws_szTyS_L0 (p0, r8, (IntKind.i64.wrap (t5_L0 + 1))) out h Q hx hr)
  · rw [if_neg hc6] at h
    refine SemF.cond rfl ?_
    simp only [gE, ↓gT, ↓reduceIte, reduceCtorEq, reduceAdd, reduceEqDiff, reduceLeDiff, reduceLT, eq_false hc6]
    refine SemF.exit rfl ?_
    simp only [gE, ↓gT, ↓reduceIte, reduceCtorEq, reduceAdd, reduceEqDiff, reduceLeDiff, reduceLT, eq_false hc6]
    obtain rfl := Option.some.inj h
    refine hx _ rfl _ _ [] ⟨by simp only [gE, ↓gT, ↓reduceIte, reduceCtorEq, reduceAdd, reduceEqDiff, reduceLeDiff, reduceLT, hwT, selS, erT, eq_false hc6], by decide, by decide, by simp only [gE, ↓gT, ↓reduceIte, reduceCtorEq, reduceAdd, reduceEqDiff, reduceLeDiff, reduceLT, hwT, selS, erT, subR, eq_false hc6], by simp only [gE, ↓gT, ↓reduceIte, reduceCtorEq, reduceAdd, reduceEqDiff, reduceLeDiff, reduceLT, hwT, selS, erT, scT, esT, eq_false hc6], by simp only [gE, ↓gT, ↓reduceIte, reduceCtorEq, reduceAdd, reduceEqDiff, reduceLeDiff, reduceLT, hwT, selS, erT, scT, esT, eq_false hc6]⟩
theorem laws_szTy_all : (∀ (x : (Ty × Int)) (r : Int), M.laws_szTy x = some r → HCp P F.laws_szTy [(Ty.enc x.1), (.int .i64 x.2)] (HV.int .i64 r)) ∧
  (∀ (x : ((List Ty) × Int)) (r : Int), M.laws_szTyS x = some r → HCp P F.laws_szTyS [(.sl (List.map Ty.enc x.1)), (.int .i64 x.2)] (HV.int .i64 r)) ∧
  (∀ (x : ((List Ty) × Int × Int)) (out : (Sum Int Int)), M.laws_szTyS_L0 x = some out → ∀ Q : HExit → Env → St → Prop, (∀ v, out = .inr v → ∀ env st sel, Weak 0 sel [(1, (.int .i64 v))] [] env st → Q (.exit 0) env st) → (∀ r, out = .inl r → ∀ env st, RetP [(4, none)] (HV.int .i64 r) env st → Q .ret env st) → SemL P H.laws_szTyS.ntmps 0 H.laws_szTyS_l6 [(0, (.sl (List.map Ty.enc x.1))), (1, (.int .i64 x.2.1)), (5, (.int .i64 x.2.2))] [] Q) := by
  refine M.laws_szTy.mutual_partial_correctness (motive_1 := fun x r => HCp P F.laws_szTy [(Ty.enc x.1), (.int .i64 x.2)] (HV.int .i64 r)) (motive_2 := fun x r => HCp P F.laws_szTyS [(.sl (List.map Ty.enc x.1)), (.int .i64 x.2)] (HV.int .i64 r)) (motive_3 := fun x out => ∀ Q : HExit → Env → St → Prop, (∀ v, out = .inr v → ∀ env st sel, Weak 0 sel [(1, (.int .i64 v))] [] env st → Q (.exit 0) env st) → (∀ r, out = .inl r → ∀ env st, RetP [(4, none)] (HV.int .i64 r) env st → Q .ret env st) → SemL P H.laws_szTyS.ntmps 0 H.laws_szTyS_l6 [(0, (.sl (List.map Ty.enc x.1))), (1, (.int .i64 x.2.1)), (5, (.int .i64 x.2.2))] [] Q) ?_ ?_ ?_
  · exact fun f_laws_szTyS ih_laws_szTyS x r h => K.laws_szTy_step f_laws_szTyS ih_laws_szTyS x r h
  · exact fun f_laws_szTyS_L0 ih_laws_szTyS_L0 x r h => K.laws_szTyS_step f_laws_szTyS_L0 ih_laws_szTyS_L0 x r h
  · exact fun f_laws_szTy f_laws_szTyS_L0 ih_laws_szTy ih_laws_szTyS_L0 x out h => K.laws_szTyS_L0_step f_laws_szTy f_laws_szTyS_L0 ih_laws_szTy ih_laws_szTyS_L0 x out h
theorem laws_szTy : (∀ (x : (Ty × Int)) (r : Int), M.laws_szTy x = some r → HCp P F.laws_szTy [(Ty.enc x.1), (.int .i64 x.2)] (HV.int .i64 r)) := K.laws_szTy_all.1
theorem laws_szTyS : (∀ (x : ((List Ty) × Int)) (r : Int), M.laws_szTyS x = some r → HCp P F.laws_szTyS [(.sl (List.map Ty.enc x.1)), (.int .i64 x.2)] (HV.int .i64 r)) := K.laws_szTy_all.2.1
theorem laws_szTyS_L0 : (∀ (x : ((List Ty) × Int × Int)) (out : (Sum Int Int)), M.laws_szTyS_L0 x = some out → ∀ Q : HExit → Env → St → Prop, (∀ v, out = .inr v → ∀ env st sel, Weak 0 sel [(1, (.int .i64 v))] [] env st → Q (.exit 0) env st) → (∀ r, out = .inl r → ∀ env st, RetP [(4, none)] (HV.int .i64 r) env st → Q .ret env st) → SemL P H.laws_szTyS.ntmps 0 H.laws_szTyS_l6 [(0, (.sl (List.map Ty.enc x.1))), (1, (.int .i64 x.2.1)), (5, (.int .i64 x.2.2))] [] Q) := K.laws_szTy_all.2.2
theorem laws_toTy_step (f_laws_toTyS : (List Ty) → Option (List Ty)) (ih_laws_toTyS : ∀ (x : (List Ty)) (r : (List Ty)), f_laws_toTyS x = some r → HCp P F.laws_toTyS [(.sl (List.map Ty.enc x))] (HV.sl (List.map Ty.enc r))) (x : Ty) (r : Ty) (h : (f_laws_toTyS x.L >>= fun r1 =>
    some (Ty.mk x.K x.S x.N r1)) = some r) : HCp P F.laws_toTy [(Ty.enc x)] (Ty.enc r) := by
  revert h; revert x; intro p0 h
  try dsimp only at h
  refine HCp.mkF S.laws_toTy (by simp [H.laws_toTy]) (by simp only [scT, esT, and_self, true_and, and_true]) ?_
  simp only [gE, ↓gT, ↓reduceIte, reduceCtorEq, reduceAdd, reduceEqDiff, reduceLeDiff, reduceLT, H.laws_toTy]
  refine SemF.seq rfl ?_
  refine SemF.reg true rfl ?_
  try simp only [gE, ↓gT, ↓reduceIte, reduceCtorEq, reduceAdd, reduceEqDiff, reduceLeDiff, reduceLT]; (repeat intro (_ : _ ≤ lim))
  refine SemF.seq rfl ?_
  refine SemF.reg true rfl ?_
  try simp only [gE, ↓gT, ↓reduceIte, reduceCtorEq, reduceAdd, reduceEqDiff, reduceLeDiff, reduceLT]; (repeat intro (_ : _ ≤ lim))
  refine SemF.seq rfl ?_
  refine SemF.reg true rfl ?_
  try simp only [gE, ↓gT, ↓reduceIte, reduceCtorEq, reduceAdd, reduceEqDiff, reduceLeDiff, reduceLT]; (repeat intro (_ : _ ≤ lim))
  refine SemF.seq rfl ?_
  refine SemF.reg true rfl ?_
  try simp only [gE, ↓gT, ↓reduceIte, reduceCtorEq, reduceAdd, reduceEqDiff, reduceLeDiff, reduceLT]; (repeat intro (_ : _ ≤ lim))
  refine SemF.seq rfl ?_
  refine SemF.reg true rfl ?_
  try simp only [gE, ↓gT, ↓reduceIte, reduceCtorEq, reduceAdd, reduceEqDiff, reduceLeDiff, reduceLT]; (repeat intro (_ : _ ≤ lim))
  refine SemF.seq rfl ?_
  refine SemF.reg true rfl ?_
  try simp only [gE, ↓gT, ↓reduceIte, reduceCtorEq, reduceAdd, reduceEqDiff, reduceLeDiff, reduceLT]; (repeat intro (_ : _ ≤ lim))
  obtain ⟨r1, h_r1, h⟩ := bs h
  refine HCp.callE (ih_laws_toTyS p0.L r1 h_r1) (by simp only [gE, ↓gT, ↓reduceIte, reduceCtorEq, reduceAdd, reduceEqDiff, reduceLeDiff, reduceLT]) (by simp only [scT, esT, and_self, true_and, and_true]) (by simp only [scT, esT, and_self, true_and, and_true]) ?_
  try simp only [gE, ↓gT, ↓reduceIte, reduceCtorEq, reduceAdd, reduceEqDiff, reduceLeDiff, reduceLT]; (repeat intro (_ : _ ≤ lim))
  refine SemF.seq rfl ?_
  refine SemF.reg true rfl ?_
  try simp only [gE, ↓gT, ↓reduceIte, reduceCtorEq, reduceAdd, reduceEqDiff, reduceLeDiff, reduceLT]; (repeat intro (_ : _ ≤ lim))
  refine SemF.ret rfl ?_
  try simp only [gE, ↓gT, ↓reduceIte, reduceCtorEq, reduceAdd, reduceEqDiff, reduceLeDiff, reduceLT]; (repeat intro (_ : _ ≤ lim))
  obtain rfl := Option.some.inj h
  simp only [gE, ↓gT, ↓reduceIte, reduceCtorEq, reduceAdd, reduceEqDiff, reduceLeDiff, reduceLT, RetP_def]
theorem laws_toTyS_step (f_laws_toTyS_L0 : ((List Ty) × Int × (List Ty)) → Option (List Ty)) (ih_laws_toTyS_L0 : ∀ (x : ((List Ty) × Int × (List Ty))) (out : (List Ty)), f_laws_toTyS_L0 x = some out → ∀ Q : HExit → Env → St → Prop, (∀ env st sel, Weak 0 sel [(3, (.own 0 out.length))] [(.arr 4 (List.map Ty.enc out) true)] env st → Q (.exit 0) env st) → SemL P H.laws_toTyS.ntmps 0 H.laws_toTyS_l5 [(0, (.sl (List.map Ty.enc x.1))), (3, (.own 0 x.2.2.length)), (4, (.int .i64 x.2.1))] [(.arr 4 (List.map Ty.enc x.2.2) true)] Q) (x : (List Ty)) (r : (List Ty)) (h : (gd ((0 : Int) ≤ ((x.length : Nat) : Int)) >>= fun u2 =>
    (gd (((x.length : Nat) : Int) ≤ (1099511627776 : Int)) >>= fun u4 =>
    (f_laws_toTyS_L0 (x, 0, (List.replicate x.length (Ty.mk 0 (⟨⟨[]⟩⟩ : ByteArray) 0 []))) >>= fun s27 =>
    some s27))) = some r) : HCp P F.laws_toTyS [(.sl (List.map Ty.enc x))] (HV.sl (List.map Ty.enc r)) := by
  revert h; revert x; intro p0 h
  try dsimp only at h
  refine HCp.mkF S.laws_toTyS (by simp [H.laws_toTyS]) (by simp only [scT, esT, and_self, true_and, and_true]) ?_
  simp only [gE, ↓gT, ↓reduceIte, reduceCtorEq, reduceAdd, reduceEqDiff, reduceLeDiff, reduceLT, H.laws_toTyS]
  refine SemF.seq rfl ?_
  refine SemF.reg true rfl ?_
  try simp only [gE, ↓gT, ↓reduceIte, reduceCtorEq, reduceAdd, reduceEqDiff, reduceLeDiff, reduceLT]; (repeat intro (_ : _ ≤ lim))
  refine SemF.seq rfl ?_
  refine SemF.reg true rfl ?_
  try simp only [gE, ↓gT, ↓reduceIte, reduceCtorEq, reduceAdd, reduceEqDiff, reduceLeDiff, reduceLT]; (repeat intro (_ : _ ≤ lim))
  (repeat intro (_ : _ ≤ lim))
  obtain ⟨u2, h_u2, h⟩ := bs h
  have hg1 := gd_some h_u2
  try simp only [gE, ↓gT, ↓reduceIte, reduceCtorEq, reduceAdd, reduceEqDiff, reduceLeDiff, reduceLT, eq_true hg1]; (repeat intro (_ : _ ≤ lim))
  obtain ⟨u4, h_u4, h⟩ := bs h
  have hg3 := gd_some h_u4
  try simp only [gE, ↓gT, ↓reduceIte, reduceCtorEq, reduceAdd, reduceEqDiff, reduceLeDiff, reduceLT, eq_true hg1, eq_true hg3]; (repeat intro (_ : _ ≤ lim))
  refine SemF.seq rfl ?_
  refine SemF.seq rfl ?_
  refine SemF.reg true rfl ?_
  try simp only [gE, ↓gT, ↓reduceIte, reduceCtorEq, reduceAdd, reduceEqDiff, reduceLeDiff, reduceLT, eq_true hg1, eq_true hg3]; (repeat intro (_ : _ ≤ lim))
  refine SemF.block rfl ?_
  obtain ⟨s27, h_s27, h⟩ := bs h
  refine SemF.loop rfl ?_
  refine SemL.weak (sel := [0]) ⟨by simp only [gE, ↓gT, ↓reduceIte, reduceCtorEq, reduceAdd, reduceEqDiff, reduceLeDiff, reduceLT, hwT, selS, erT, eq_true hg1, eq_true hg3], by decide, by decide, by simp only [gE, ↓gT, ↓reduceIte, reduceCtorEq, reduceAdd, reduceEqDiff, reduceLeDiff, reduceLT, hwT, selS, erT, subR, eq_true hg1, eq_true hg3], by simp only [gE, ↓gT, ↓reduceIte, reduceCtorEq, reduceAdd, reduceEqDiff, reduceLeDiff, reduceLT, hwT, selS, erT, scT, esT, eq_true hg1, eq_true hg3], by simp only [gE, ↓gT, ↓reduceIte, reduceCtorEq, reduceAdd, reduceEqDiff, reduceLeDiff, reduceLT, hwT, selS, erT, scT, esT, eq_true hg1, eq_true hg3]⟩ (ih_laws_toTyS_L0 (p0, 0, (List.replicate p0.length (Ty.mk 0 (⟨⟨[]⟩⟩ : ByteArray) 0 []))) s27 h_s27 _ ?_)
  intro env st sel hw
  simp only [gE, ↓gT, ↓reduceIte, reduceCtorEq, reduceAdd, reduceEqDiff, reduceLeDiff, reduceLT]
  first | refine SemF.weak hw ?_ | refine SemL.weak hw ?_
  refine SemF.seq rfl ?_
  refine SemF.reg true rfl ?_
  try simp only [gE, ↓gT, ↓reduceIte, reduceCtorEq, reduceAdd, reduceEqDiff, reduceLeDiff, reduceLT, eq_true hg1, eq_true hg3]; (repeat intro (_ : _ ≤ lim))
  refine SemF.ret rfl ?_
  try simp only [gE, ↓gT, ↓reduceIte, reduceCtorEq, reduceAdd, reduceEqDiff, reduceLeDiff, reduceLT, eq_true hg1, eq_true hg3]; (repeat intro (_ : _ ≤ lim))
  obtain rfl := Option.some.inj h
  simp only [gE, ↓gT, ↓reduceIte, reduceCtorEq, reduceAdd, reduceEqDiff, reduceLeDiff, reduceLT, RetP_def, eq_true hg1, eq_true hg3]
theorem laws_toTyS_L0_step (f_laws_toTy : Ty → Option Ty) (f_laws_toTyS_L0 : ((List Ty) × Int × (List Ty)) → Option (List Ty)) (ih_laws_toTy : ∀ (x : Ty) (r : Ty), f_laws_toTy x = some r → HCp P F.laws_toTy [(Ty.enc x)] (Ty.enc r)) (ih_laws_toTyS_L0 : ∀ (x : ((List Ty) × Int × (List Ty))) (out : (List Ty)), f_laws_toTyS_L0 x = some out → ∀ Q : HExit → Env → St → Prop, (∀ env st sel, Weak 0 sel [(3, (.own 0 out.length))] [(.arr 4 (List.map Ty.enc out) true)] env st → Q (.exit 0) env st) → SemL P H.laws_toTyS.ntmps 0 H.laws_toTyS_l5 [(0, (.sl (List.map Ty.enc x.1))), (3, (.own 0 x.2.2.length)), (4, (.int .i64 x.2.1))] [(.arr 4 (List.map Ty.enc x.2.2) true)] Q) (x : ((List Ty) × Int × (List Ty))) (out : (List Ty)) (h : (if x.2.1 < ((x.1.length : Nat) : Int) then (ix x.1 x.2.1 >>= fun e20 =>
    (f_laws_toTy e20 >>= fun r21 =>
    (gd ((0 : Int) ≤ x.2.1) >>= fun u23 =>
    (gd (x.2.1 < ((x.2.2.length : Nat) : Int)) >>= fun u25 =>
    f_laws_toTyS_L0 (x.1, (IntKind.i64.wrap (x.2.1 + 1)), (x.2.2.set x.2.1.toNat r21)))))) else
    some x.2.2) = some out) : ∀ Q : HExit → Env → St → Prop, (∀ env st sel, Weak 0 sel [(3, (.own 0 out.length))] [(.arr 4 (List.map Ty.enc out) true)] env st → Q (.exit 0) env st) → SemL P H.laws_toTyS.ntmps 0 H.laws_toTyS_l5 [(0, (.sl (List.map Ty.enc x.1))), (3, (.own 0 x.2.2.length)), (4, (.int .i64 x.2.1))] [(.arr 4 (List.map Ty.enc x.2.2) true)] Q := by
  obtain ⟨p0, t4_L0, a0_L0⟩ := x
  try dsimp only at h
  intro Q hx
  refine SemL.round ?_
  try dsimp only at hx
  refine SemF.seq rfl ?_
  refine SemF.seq rfl ?_
  refine SemF.reg true rfl ?_
  try simp only [gE, ↓gT, ↓reduceIte, reduceCtorEq, reduceAdd, reduceEqDiff, reduceLeDiff, reduceLT]; (repeat intro (_ : _ ≤ lim))
  (repeat intro (_ : _ ≤ lim))
  by_cases hc19 : t4_L0 < ((p0.length : Nat) : Int)
  · rw [if_pos hc19] at h
    refine SemF.cond rfl ?_
    simp only [gE, ↓gT, ↓reduceIte, reduceCtorEq, reduceAdd, reduceEqDiff, reduceLeDiff, reduceLT, eq_true hc19]
    refine SemF.skip rfl ?_
    simp only [gE, ↓gT, ↓reduceIte, reduceCtorEq, reduceAdd, reduceEqDiff, reduceLeDiff, reduceLT, eq_true hc19]
    refine SemF.seq rfl ?_
    refine SemF.block rfl ?_
    refine SemF.reg true rfl ?_
    try simp only [gE, ↓gT, ↓reduceIte, reduceCtorEq, reduceAdd, reduceEqDiff, reduceLeDiff, reduceLT, eq_true hc19]; (repeat intro (_ : _ ≤ lim))
    obtain ⟨e20, h_e20, h⟩ := bs h
    have m_e20 := ixm (f := Ty.enc) (ix_get h_e20)
    try simp only [gE, ↓gT, ↓reduceIte, reduceCtorEq, reduceAdd, reduceEqDiff, reduceLeDiff, reduceLT, eq_true hc19, eq_true (ix_nn h_e20), m_e20]; (repeat intro (_ : _ ≤ lim))
    obtain ⟨r21, h_r21, h⟩ := bs h
    refine HCp.callE (ih_laws_toTy e20 r21 h_r21) (by simp only [gE, ↓gT, ↓reduceIte, reduceCtorEq, reduceAdd, reduceEqDiff, reduceLeDiff, reduceLT, eq_true hc19, eq_true (ix_nn h_e20), m_e20]) (by simp only [scT, esT, and_self, true_and, and_true]) (by simp only [scT, esT, and_self, true_and, and_true]) ?_
    try simp only [gE, ↓gT, ↓reduceIte, reduceCtorEq, reduceAdd, reduceEqDiff, reduceLeDiff, reduceLT, eq_true hc19, eq_true (ix_nn h_e20), m_e20]; (repeat intro (_ : _ ≤ lim))
    obtain ⟨u23, h_u23, h⟩ := bs h
    have hg22 := gd_some h_u23
    try simp only [gE, ↓gT, ↓reduceIte, reduceCtorEq, reduceAdd, reduceEqDiff, reduceLeDiff, reduceLT, eq_true hc19, eq_true (ix_nn h_e20), m_e20, eq_true hg22]; (repeat intro (_ : _ ≤ lim))
    obtain ⟨u25, h_u25, h⟩ := bs h
    have hg24 := gd_some h_u25
    try simp only [gE, ↓gT, ↓reduceIte, reduceCtorEq, reduceAdd, reduceEqDiff, reduceLeDiff, reduceLT, eq_true hc19, eq_true (ix_nn h_e20), m_e20, eq_true hg22, eq_true hg24]; (repeat intro (_ : _ ≤ lim))
    obtain ⟨y26, m_y26⟩ := own_get (f := Ty.enc) (l := a0_L0) (by simp only [List.length_replicate, List.length_set, List.length_append, List.length_cons, List.length_nil, Nat.zero_add, reduceAdd]) hg22 hg24
    try simp only [gE, ↓gT, ↓reduceIte, reduceCtorEq, reduceAdd, reduceEqDiff, reduceLeDiff, reduceLT, eq_true hc19, eq_true (ix_nn h_e20), m_e20, eq_true hg22, eq_true hg24, m_y26]; (repeat intro (_ : _ ≤ lim))
    refine SemF.reg true rfl ?_
    try simp only [gE, ↓gT, ↓reduceIte, reduceCtorEq, reduceAdd, reduceEqDiff, reduceLeDiff, reduceLT, eq_true hc19, eq_true (ix_nn h_e20), m_e20, eq_true hg22, eq_true hg24, m_y26]; (repeat intro (_ : _ ≤ lim))
    refine SemL.weak (sel := [0]) ⟨by simp only [gE, ↓gT, ↓reduceIte, reduceCtorEq, reduceAdd, reduceEqDiff, reduceLeDiff, reduceLT, hwT, selS, erT, eq_true hc19, eq_true (ix_nn h_e20), m_e20, eq_true hg22, eq_true hg24, m_y26], by decide, by decide, by simp only [gE, ↓gT, ↓reduceIte, reduceCtorEq, reduceAdd, reduceEqDiff, reduceLeDiff, reduceLT, hwT, selS, erT, subR, eq_true hc19, eq_true (ix_nn h_e20), m_e20, eq_true hg22, eq_true hg24, m_y26], by simp only [gE, ↓gT, ↓reduceIte, reduceCtorEq, reduceAdd, reduceEqDiff, reduceLeDiff, reduceLT, hwT, selS, erT, scT, esT, eq_true hc19, eq_true (ix_nn h_e20), m_e20, eq_true hg22, eq_true hg24, m_y26], by simp only [gE, ↓gT, ↓reduceIte, reduceCtorEq, reduceAdd, reduceEqDiff, reduceLeDiff, reduceLT, hwT, selS, erT, scT, esT, eq_true hc19, eq_true (ix_nn h_e20), m_e20, eq_true hg22, eq_true hg24, m_y26]⟩ (ih_laws_toTyS_L0 (p0, (IntKind.i64.wrap (t4_L0 + 1)), (a0_L0.set t4_L0.toNat r21)) out h Q hx)
  · rw [if_neg hc19] at h
    refine SemF.cond rfl ?_
    simp only [gE, ↓gT, ↓reduceIte, reduceCtorEq, reduceAdd, reduceEqDiff, reduceLeDiff, reduceLT, eq_false hc19]
    refine SemF.exit rfl ?_
    simp only [gE, ↓gT, ↓reduceIte, reduceCtorEq, reduceAdd, reduceEqDiff, reduceLeDiff, reduceLT, eq_false hc19]
    obtain rfl := Option.some.inj h
    refine hx _ _ [0] ⟨by simp only [gE, ↓gT, ↓reduceIte, reduceCtorEq, reduceAdd, reduceEqDiff, reduceLeDiff, reduceLT, hwT, selS, erT, eq_false hc19], by decide, by decide, by simp only [gE, ↓gT, ↓reduceIte, reduceCtorEq, reduceAdd, reduceEqDiff, reduceLeDiff, reduceLT, hwT, selS, erT, subR, eq_false hc19], by simp only [gE, ↓gT, ↓reduceIte, reduceCtorEq, reduceAdd, reduceEqDiff, reduceLeDiff, reduceLT, hwT, selS, erT, scT, esT, eq_false hc19], by simp only [gE, ↓gT, ↓reduceIte, reduceCtorEq, reduceAdd, reduceEqDiff, reduceLeDiff, reduceLT, hwT, selS, erT, scT, esT, eq_false hc19]⟩
theorem laws_toTy_all : (∀ (x : Ty) (r : Ty), M.laws_toTy x = some r → HCp P F.laws_toTy [(Ty.enc x)] (Ty.enc r)) ∧
  (∀ (x : (List Ty)) (r : (List Ty)), M.laws_toTyS x = some r → HCp P F.laws_toTyS [(.sl (List.map Ty.enc x))] (HV.sl (List.map Ty.enc r))) ∧
  (∀ (x : ((List Ty) × Int × (List Ty))) (out : (List Ty)), M.laws_toTyS_L0 x = some out → ∀ Q : HExit → Env → St → Prop, (∀ env st sel, Weak 0 sel [(3, (.own 0 out.length))] [(.arr 4 (List.map Ty.enc out) true)] env st → Q (.exit 0) env st) → SemL P H.laws_toTyS.ntmps 0 H.laws_toTyS_l5 [(0, (.sl (List.map Ty.enc x.1))), (3, (.own 0 x.2.2.length)), (4, (.int .i64 x.2.1))] [(.arr 4 (List.map Ty.enc x.2.2) true)] Q) := by
  refine M.laws_toTy.mutual_partial_correctness (motive_1 := fun x r => HCp P F.laws_toTy [(Ty.enc x)] (Ty.enc r)) (motive_2 := fun x r => HCp P F.laws_toTyS [(.sl (List.map Ty.enc x))] (HV.sl (List.map Ty.enc r))) (motive_3 := fun x out => ∀ Q : HExit → Env → St → Prop, (∀ env st sel, Weak 0 sel [(3, (.own 0 out.length))] [(.arr 4 (List.map Ty.enc out) true)] env st → Q (.exit 0) env st) → SemL P H.laws_toTyS.ntmps 0 H.laws_toTyS_l5 [(0, (.sl (List.map Ty.enc x.1))), (3, (.own 0 x.2.2.length)), (4, (.int .i64 x.2.1))] [(.arr 4 (List.map Ty.enc x.2.2) true)] Q) ?_ ?_ ?_
  · exact fun f_laws_toTyS ih_laws_toTyS x r h => K.laws_toTy_step f_laws_toTyS ih_laws_toTyS x r h
  · exact fun f_laws_toTyS_L0 ih_laws_toTyS_L0 x r h => K.laws_toTyS_step f_laws_toTyS_L0 ih_laws_toTyS_L0 x r h
  · exact fun f_laws_toTy f_laws_toTyS_L0 ih_laws_toTy ih_laws_toTyS_L0 x out h => K.laws_toTyS_L0_step f_laws_toTy f_laws_toTyS_L0 ih_laws_toTy ih_laws_toTyS_L0 x out h
theorem laws_toTy : (∀ (x : Ty) (r : Ty), M.laws_toTy x = some r → HCp P F.laws_toTy [(Ty.enc x)] (Ty.enc r)) := K.laws_toTy_all.1
theorem laws_toTyS : (∀ (x : (List Ty)) (r : (List Ty)), M.laws_toTyS x = some r → HCp P F.laws_toTyS [(.sl (List.map Ty.enc x))] (HV.sl (List.map Ty.enc r))) := K.laws_toTy_all.2.1
theorem laws_toTyS_L0 : (∀ (x : ((List Ty) × Int × (List Ty))) (out : (List Ty)), M.laws_toTyS_L0 x = some out → ∀ Q : HExit → Env → St → Prop, (∀ env st sel, Weak 0 sel [(3, (.own 0 out.length))] [(.arr 4 (List.map Ty.enc out) true)] env st → Q (.exit 0) env st) → SemL P H.laws_toTyS.ntmps 0 H.laws_toTyS_l5 [(0, (.sl (List.map Ty.enc x.1))), (3, (.own 0 x.2.2.length)), (4, (.int .i64 x.2.1))] [(.arr 4 (List.map Ty.enc x.2.2) true)] Q) := K.laws_toTy_all.2.2
theorem laws_eqTy_step (f_laws_eqTyS : ((List Ty) × (List Ty)) → Option Bool) (ih_laws_eqTyS : ∀ (x : ((List Ty) × (List Ty))) (r : Bool), f_laws_eqTyS x = some r → HCp P F.laws_eqTyS [(.sl (List.map Ty.enc x.1)), (.sl (List.map Ty.enc x.2))] (HV.bool r)) (x : (Ty × Ty)) (r : Bool) (h : (if x.1.K = x.2.K then (if x.1.S = x.2.S then (if x.1.N = x.2.N then (f_laws_eqTyS (x.1.L, x.2.L) >>= fun r4 =>
    (if r4 = true then some true else
    some false)) else
    some false) else
    some false) else
    some false) = some r) : HCp P F.laws_eqTy [(Ty.enc x.1), (Ty.enc x.2)] (HV.bool r) := by
  obtain ⟨p0, p1⟩ := x
  try dsimp only at h
  refine HCp.mkF S.laws_eqTy (by simp [H.laws_eqTy]) (by simp only [scT, esT, and_self, true_and, and_true]) ?_
  simp only [gE, ↓gT, ↓reduceIte, reduceCtorEq, reduceAdd, reduceEqDiff, reduceLeDiff, reduceLT, H.laws_eqTy]
  refine SemF.seq rfl ?_
  refine SemF.reg true rfl ?_
  try simp only [gE, ↓gT, ↓reduceIte, reduceCtorEq, reduceAdd, reduceEqDiff, reduceLeDiff, reduceLT]; (repeat intro (_ : _ ≤ lim))
  refine SemF.seq rfl ?_
  refine SemF.seq rfl ?_
  refine SemF.reg true rfl ?_
  try simp only [gE, ↓gT, ↓reduceIte, reduceCtorEq, reduceAdd, reduceEqDiff, reduceLeDiff, reduceLT]; (repeat intro (_ : _ ≤ lim))
  by_cases hc1 : p0.K = p1.K
  · rw [if_pos hc1] at h
    refine SemF.cond rfl ?_
    simp only [gE, ↓gT, ↓reduceIte, reduceCtorEq, reduceAdd, reduceEqDiff, reduceLeDiff, reduceLT, eq_true hc1]
    refine SemF.skip rfl ?_
    simp only [gE, ↓gT, ↓reduceIte, reduceCtorEq, reduceAdd, reduceEqDiff, reduceLeDiff, reduceLT, eq_true hc1]
    refine SemF.seq rfl ?_
    refine SemF.seq rfl ?_
    refine SemF.reg true rfl ?_
    try simp only [gE, ↓gT, ↓reduceIte, reduceCtorEq, reduceAdd, reduceEqDiff, reduceLeDiff, reduceLT, eq_true hc1]; (repeat intro (_ : _ ≤ lim))
    by_cases hc2 : p0.S = p1.S
    · rw [if_pos hc2] at h
      refine SemF.cond rfl ?_
      simp only [gE, ↓gT, ↓reduceIte, reduceCtorEq, reduceAdd, reduceEqDiff, reduceLeDiff, reduceLT, eq_true hc1, eq_true hc2]
      refine SemF.skip rfl ?_
      simp only [gE, ↓gT, ↓reduceIte, reduceCtorEq, reduceAdd, reduceEqDiff, reduceLeDiff, reduceLT, eq_true hc1, eq_true hc2]
      refine SemF.seq rfl ?_
      refine SemF.seq rfl ?_
      refine SemF.reg true rfl ?_
      try simp only [gE, ↓gT, ↓reduceIte, reduceCtorEq, reduceAdd, reduceEqDiff, reduceLeDiff, reduceLT, eq_true hc1, eq_true hc2]; (repeat intro (_ : _ ≤ lim))
      by_cases hc3 : p0.N = p1.N
      · rw [if_pos hc3] at h
        refine SemF.cond rfl ?_
        simp only [gE, ↓gT, ↓reduceIte, reduceCtorEq, reduceAdd, reduceEqDiff, reduceLeDiff, reduceLT, eq_true hc1, eq_true hc2, eq_true hc3]
        refine SemF.skip rfl ?_
        simp only [gE, ↓gT, ↓reduceIte, reduceCtorEq, reduceAdd, reduceEqDiff, reduceLeDiff, reduceLT, eq_true hc1, eq_true hc2, eq_true hc3]
        refine SemF.seq rfl ?_
        refine SemF.seq rfl ?_
        refine SemF.reg true rfl ?_
        try simp only [gE, ↓gT, ↓reduceIte, reduceCtorEq, reduceAdd, reduceEqDiff, reduceLeDiff, reduceLT, eq_true hc1, eq_true hc2, eq_true hc3]; (repeat intro (_ : _ ≤ lim))
        obtain ⟨r4, h_r4, h⟩ := bs h
        refine HCp.callE (ih_laws_eqTyS (p0.L, p1.L) r4 h_r4) (by simp only [gE, ↓gT, ↓reduceIte, reduceCtorEq, reduceAdd, reduceEqDiff, reduceLeDiff, reduceLT, eq_true hc1, eq_true hc2, eq_true hc3]) (by simp only [scT, esT, and_self, true_and, and_true]) (by simp only [scT, esT, and_self, true_and, and_true]) ?_
        try simp only [gE, ↓gT, ↓reduceIte, reduceCtorEq, reduceAdd, reduceEqDiff, reduceLeDiff, reduceLT, eq_true hc1, eq_true hc2, eq_true hc3]; (repeat intro (_ : _ ≤ lim))
        by_cases hc5 : r4 = true
        · rw [if_pos hc5] at h
          refine SemF.cond rfl ?_
          simp only [gE, ↓gT, ↓reduceIte, reduceCtorEq, reduceAdd, reduceEqDiff, reduceLeDiff, reduceLT, eq_true hc1, eq_true hc2, eq_true hc3, hc5]
          refine SemF.skip rfl ?_
          simp only [gE, ↓gT, ↓reduceIte, reduceCtorEq, reduceAdd, reduceEqDiff, reduceLeDiff, reduceLT, eq_true hc1, eq_true hc2, eq_true hc3, hc5]
          refine SemF.seq rfl ?_
          refine SemF.reg true rfl ?_
          try simp only [gE, ↓gT, ↓reduceIte, reduceCtorEq, reduceAdd, reduceEqDiff, reduceLeDiff, reduceLT, eq_true hc1, eq_true hc2, eq_true hc3, hc5]; (repeat intro (_ : _ ≤ lim))
          refine SemF.ret rfl ?_
          try simp only [gE, ↓gT, ↓reduceIte, reduceCtorEq, reduceAdd, reduceEqDiff, reduceLeDiff, reduceLT, eq_true hc1, eq_true hc2, eq_true hc3, hc5]; (repeat intro (_ : _ ≤ lim))
          obtain rfl := Option.some.inj h
          simp only [gE, ↓gT, ↓reduceIte, reduceCtorEq, reduceAdd, reduceEqDiff, reduceLeDiff, reduceLT, RetP_def, eq_true hc1, eq_true hc2, eq_true hc3, hc5]
        · rw [if_neg hc5] at h
          replace hc5 := eq_false_of_ne_true hc5
          refine SemF.cond rfl ?_
          simp only [gE, ↓gT, ↓reduceIte, reduceCtorEq, reduceAdd, reduceEqDiff, reduceLeDiff, reduceLT, eq_true hc1, eq_true hc2, eq_true hc3, hc5]
          refine SemF.seq rfl ?_
          refine SemF.reg true rfl ?_
          try simp only [gE, ↓gT, ↓reduceIte, reduceCtorEq, reduceAdd, reduceEqDiff, reduceLeDiff, reduceLT, eq_true hc1, eq_true hc2, eq_true hc3, hc5]; (repeat intro (_ : _ ≤ lim))
          refine SemF.ret rfl ?_
          try simp only [gE, ↓gT, ↓reduceIte, reduceCtorEq, reduceAdd, reduceEqDiff, reduceLeDiff, reduceLT, eq_true hc1, eq_true hc2, eq_true hc3, hc5]; (repeat intro (_ : _ ≤ lim))
          obtain rfl := Option.some.inj h
          simp only [gE, ↓gT, ↓reduceIte, reduceCtorEq, reduceAdd, reduceEqDiff, reduceLeDiff, reduceLT, RetP_def, eq_true hc1, eq_true hc2, eq_true hc3, hc5]
      · rw [if_neg hc3] at h
        refine SemF.cond rfl ?_
        simp only [gE, ↓gT, ↓reduceIte, reduceCtorEq, reduceAdd, reduceEqDiff, reduceLeDiff, reduceLT, eq_true hc1, eq_true hc2, eq_false hc3]
        refine SemF.seq rfl ?_
        refine SemF.reg true rfl ?_
        try simp only [gE, ↓gT, ↓reduceIte, reduceCtorEq, reduceAdd, reduceEqDiff, reduceLeDiff, reduceLT, eq_true hc1, eq_true hc2, eq_false hc3]; (repeat intro (_ : _ ≤ lim))
        refine SemF.ret rfl ?_
        try simp only [gE, ↓gT, ↓reduceIte, reduceCtorEq, reduceAdd, reduceEqDiff, reduceLeDiff, reduceLT, eq_true hc1, eq_true hc2, eq_false hc3]; (repeat intro (_ : _ ≤ lim))
        obtain rfl := Option.some.inj h
        simp only [gE, ↓gT, ↓reduceIte, reduceCtorEq, reduceAdd, reduceEqDiff, reduceLeDiff, reduceLT, RetP_def, eq_true hc1, eq_true hc2, eq_false hc3]
    · rw [if_neg hc2] at h
      refine SemF.cond rfl ?_
      simp only [gE, ↓gT, ↓reduceIte, reduceCtorEq, reduceAdd, reduceEqDiff, reduceLeDiff, reduceLT, eq_true hc1, eq_false hc2]
      refine SemF.seq rfl ?_
      refine SemF.reg true rfl ?_
      try simp only [gE, ↓gT, ↓reduceIte, reduceCtorEq, reduceAdd, reduceEqDiff, reduceLeDiff, reduceLT, eq_true hc1, eq_false hc2]; (repeat intro (_ : _ ≤ lim))
      refine SemF.ret rfl ?_
      try simp only [gE, ↓gT, ↓reduceIte, reduceCtorEq, reduceAdd, reduceEqDiff, reduceLeDiff, reduceLT, eq_true hc1, eq_false hc2]; (repeat intro (_ : _ ≤ lim))
      obtain rfl := Option.some.inj h
      simp only [gE, ↓gT, ↓reduceIte, reduceCtorEq, reduceAdd, reduceEqDiff, reduceLeDiff, reduceLT, RetP_def, eq_true hc1, eq_false hc2]
  · rw [if_neg hc1] at h
    refine SemF.cond rfl ?_
    simp only [gE, ↓gT, ↓reduceIte, reduceCtorEq, reduceAdd, reduceEqDiff, reduceLeDiff, reduceLT, eq_false hc1]
    refine SemF.seq rfl ?_
    refine SemF.reg true rfl ?_
    try simp only [gE, ↓gT, ↓reduceIte, reduceCtorEq, reduceAdd, reduceEqDiff, reduceLeDiff, reduceLT, eq_false hc1]; (repeat intro (_ : _ ≤ lim))
    refine SemF.ret rfl ?_
    try simp only [gE, ↓gT, ↓reduceIte, reduceCtorEq, reduceAdd, reduceEqDiff, reduceLeDiff, reduceLT, eq_false hc1]; (repeat intro (_ : _ ≤ lim))
    obtain rfl := Option.some.inj h
    simp only [gE, ↓gT, ↓reduceIte, reduceCtorEq, reduceAdd, reduceEqDiff, reduceLeDiff, reduceLT, RetP_def, eq_false hc1]
end K
end W
