import Derived.Test.YtnhdobhfebiggaaDoorTPrf3
namespace W
set_option linter.unusedSimpArgs false
set_option linter.unusedVariables false
open Go HL S
open Nat (reduceAdd reduceEqDiff reduceLeDiff reduceSub reduceMul reduceLT)
set_option linter.unusedVariables false
set_option maxRecDepth 100000
set_option maxHeartbeats 4000000
namespace K
theorem spec_l9Text_all : (∀ (x : (Ty × Int)) (r : (ByteArray × Bool)), M.spec_l9Text x = some r → HCp P F.spec_l9Text [(Ty.enc x.1), (.int .i64 x.2)] (HV.tup [(HV.str r.1), (HV.bool r.2)])) := by
  refine M.spec_l9Text.partial_correctness (motive := fun x r => HCp P F.spec_l9Text [(Ty.enc x.1), (.int .i64 x.2)] (HV.tup [(HV.str r.1), (HV.bool r.2)])) ?_
  · exact fun f_spec_l9Text ih_spec_l9Text x r h => K.spec_l9Text_step f_spec_l9Text ih_spec_l9Text x r h
theorem spec_l9Text : (∀ (x : (Ty × Int)) (r : (ByteArray × Bool)), M.spec_l9Text x = some r → HCp P F.spec_l9Text [(Ty.enc x.1), (.int .i64 x.2)] (HV.tup [(HV.str r.1), (HV.bool r.2)])) := K.spec_l9Text_all
theorem spec_TyText : ∀ (x : Ty) (r : ByteArray), M.spec_TyText x = some r → HCp P F.spec_TyText [(Ty.enc x)] (HV.str r) := by
  intro x r h
  revert h; revert x; intro p0 h
  unfold M.spec_TyText at h
  try dsimp only at h
  refine HCp.mkF S.spec_TyText (by simp [H.spec_TyText]) (by simp only [scT, esT, and_self, true_and, and_true]) ?_
  simp only [gE, ↓gT, ↓reduceIte, reduceCtorEq, reduceAdd, reduceEqDiff, reduceLeDiff, reduceLT, H.spec_TyText]
  refine SemF.seq rfl ?_
  refine SemF.reg true rfl ?_
  try simp only [gE, ↓gT, ↓reduceIte, reduceCtorEq, reduceAdd, reduceEqDiff, reduceLeDiff, reduceLT]; (repeat intro (_ : _ ≤ lim))
  refine SemF.seq rfl ?_
  refine SemF.reg true rfl ?_
  try simp only [gE, ↓gT, ↓reduceIte, reduceCtorEq, reduceAdd, reduceEqDiff, reduceLeDiff, reduceLT]; (repeat intro (_ : _ ≤ lim))
  obtain ⟨r1, h_r1, h⟩ := bs h
  refine HCp.callE (K.spec_l9Text (p0, 1) r1 h_r1) (by simp only [gE, ↓gT, ↓reduceIte, reduceCtorEq, reduceAdd, reduceEqDiff, reduceLeDiff, reduceLT]) (by simp only [scT, esT, and_self, true_and, and_true]) (by simp only [scT, esT, and_self, true_and, and_true]) ?_
  try simp only [gE, ↓gT, ↓reduceIte, reduceCtorEq, reduceAdd, reduceEqDiff, reduceLeDiff, reduceLT]; (repeat intro (_ : _ ≤ lim))
  refine SemF.seq rfl ?_
  refine SemF.seq rfl ?_
  refine SemF.reg true rfl ?_
  try simp only [gE, ↓gT, ↓reduceIte, reduceCtorEq, reduceAdd, reduceEqDiff, reduceLeDiff, reduceLT]; (repeat intro (_ : _ ≤ lim))
  by_cases hc2 : r1.2 = true
  · rw [if_pos hc2] at h
    refine SemF.cond rfl ?_
    simp only [gE, ↓gT, ↓reduceIte, reduceCtorEq, reduceAdd, reduceEqDiff, reduceLeDiff, reduceLT, hc2]
    refine SemF.skip rfl ?_
    simp only [gE, ↓gT, ↓reduceIte, reduceCtorEq, reduceAdd, reduceEqDiff, reduceLeDiff, reduceLT, hc2]
    refine SemF.seq rfl ?_
    refine SemF.reg true rfl ?_
    try simp only [gE, ↓gT, ↓reduceIte, reduceCtorEq, reduceAdd, reduceEqDiff, reduceLeDiff, reduceLT, hc2]; (repeat intro (_ : _ ≤ lim))
    refine SemF.ret rfl ?_
    try simp only [gE, ↓gT, ↓reduceIte, reduceCtorEq, reduceAdd, reduceEqDiff, reduceLeDiff, reduceLT, hc2]; (repeat intro (_ : _ ≤ lim))
    obtain rfl := Option.some.inj h
    simp only [gE, ↓gT, ↓reduceIte, reduceCtorEq, reduceAdd, reduceEqDiff, reduceLeDiff, reduceLT, RetP_def, hc2]
  · rw [if_neg hc2] at h
    replace hc2 := eq_false_of_ne_true hc2
    refine SemF.cond rfl ?_
    simp only [gE, ↓gT, ↓reduceIte, reduceCtorEq, reduceAdd, reduceEqDiff, reduceLeDiff, reduceLT, hc2]
    refine SemF.seq rfl ?_
    refine SemF.reg true rfl ?_
    try simp only [gE, ↓gT, ↓reduceIte, reduceCtorEq, reduceAdd, reduceEqDiff, reduceLeDiff, reduceLT, hc2]; (repeat intro (_ : _ ≤ lim))
    refine SemF.ret rfl ?_
    try simp only [gE, ↓gT, ↓reduceIte, reduceCtorEq, reduceAdd, reduceEqDiff, reduceLeDiff, reduceLT, hc2]; (repeat intro (_ : _ ≤ lim))
    obtain rfl := Option.some.inj h
    simp only [gE, ↓gT, ↓reduceIte, reduceCtorEq, reduceAdd, reduceEqDiff, reduceLeDiff, reduceLT, RetP_def, hc2]
theorem laws_FnExactTyText : ∀ (x : Ty) (r : Bool), M.laws_FnExactTyText x = some r → HCp P F.laws_FnExactTyText [(Ty.enc x)] (HV.bool r) := by
  intro x r h
  revert h; revert x; intro p0 h
  unfold M.laws_FnExactTyText at h
  try dsimp only at h
  refine HCp.mkF S.laws_FnExactTyText (by simp [H.laws_FnExactTyText]) (by simp only [scT, esT, and_self, true_and, and_true]) ?_
  simp only [gE, ↓gT, ↓reduceIte, reduceCtorEq, reduceAdd, reduceEqDiff, reduceLeDiff, reduceLT, H.laws_FnExactTyText]
  refine SemF.seq rfl ?_
  refine SemF.reg true rfl ?_
  try simp only [gE, ↓gT, ↓reduceIte, reduceCtorEq, reduceAdd, reduceEqDiff, reduceLeDiff, reduceLT]; (repeat intro (_ : _ ≤ lim))
  refine SemF.seq rfl ?_
  refine SemF.reg true rfl ?_
  try simp only [gE, ↓gT, ↓reduceIte, reduceCtorEq, reduceAdd, reduceEqDiff, reduceLeDiff, reduceLT]; (repeat intro (_ : _ ≤ lim))
  refine SemF.seq rfl ?_
  refine SemF.reg true rfl ?_
  try simp only [gE, ↓gT, ↓reduceIte, reduceCtorEq, reduceAdd, reduceEqDiff, reduceLeDiff, reduceLT]; (repeat intro (_ : _ ≤ lim))
  obtain ⟨r1, h_r1, h⟩ := bs h
  refine HCp.callE (K.laws_szTy (p0, 1048576) r1 h_r1) (by simp only [gE, ↓gT, ↓reduceIte, reduceCtorEq, reduceAdd, reduceEqDiff, reduceLeDiff, reduceLT]) (by simp only [scT, esT, and_self, true_and, and_true]) (by simp only [scT, esT, and_self, true_and, and_true]) ?_
  try simp only [gE, ↓gT, ↓reduceIte, reduceCtorEq, reduceAdd, reduceEqDiff, reduceLeDiff, reduceLT]; (repeat intro (_ : _ ≤ lim))
  refine SemF.seq rfl ?_
  refine SemF.seq rfl ?_
  refine SemF.reg true rfl ?_
  try simp only [gE, ↓gT, ↓reduceIte, reduceCtorEq, reduceAdd, reduceEqDiff, reduceLeDiff, reduceLT]; (repeat intro (_ : _ ≤ lim))
  by_cases hc2 : r1 < 0
  · rw [if_pos hc2] at h
    refine SemF.cond rfl ?_
    simp only [gE, ↓gT, ↓reduceIte, reduceCtorEq, reduceAdd, reduceEqDiff, reduceLeDiff, reduceLT, eq_true hc2]
    refine SemF.seq rfl ?_
    refine SemF.reg true rfl ?_
    try simp only [gE, ↓gT, ↓reduceIte, reduceCtorEq, reduceAdd, reduceEqDiff, reduceLeDiff, reduceLT, eq_true hc2]; (repeat intro (_ : _ ≤ lim))
    refine SemF.ret rfl ?_
    try simp only [gE, ↓gT, ↓reduceIte, reduceCtorEq, reduceAdd, reduceEqDiff, reduceLeDiff, reduceLT, eq_true hc2]; (repeat intro (_ : _ ≤ lim))
    obtain rfl := Option.some.inj h
    simp only [gE, ↓gT, ↓reduceIte, reduceCtorEq, reduceAdd, reduceEqDiff, reduceLeDiff, reduceLT, RetP_def, eq_true hc2]
  · rw [if_neg hc2] at h
    refine SemF.cond rfl ?_
    simp only [gE, ↓gT, ↓reduceIte, reduceCtorEq, reduceAdd, reduceEqDiff, reduceLeDiff, reduceLT, eq_false hc2]
    refine SemF.skip rfl ?_
    simp only [gE, ↓gT, ↓reduceIte, reduceCtorEq, reduceAdd, reduceEqDiff, reduceLeDiff, reduceLT, eq_false hc2]
    refine SemF.seq rfl ?_
    refine SemF.reg true rfl ?_
    try simp only [gE, ↓gT, ↓reduceIte, reduceCtorEq, reduceAdd, reduceEqDiff, reduceLeDiff, reduceLT, eq_false hc2]; (repeat intro (_ : _ ≤ lim))
    obtain ⟨r3, h_r3, h⟩ := bs h
    refine HCp.callE (K.laws_toTy p0 r3 h_r3) (by simp only [gE, ↓gT, ↓reduceIte, reduceCtorEq, reduceAdd, reduceEqDiff, reduceLeDiff, reduceLT, eq_false hc2]) (by simp only [scT, esT, and_self, true_and, and_true]) (by simp only [scT, esT, and_self, true_and, and_true]) ?_
    try simp only [gE, ↓gT, ↓reduceIte, reduceCtorEq, reduceAdd, reduceEqDiff, reduceLeDiff, reduceLT, eq_false hc2]; (repeat intro (_ : _ ≤ lim))
    obtain ⟨r4, h_r4, h⟩ := bs h
    refine HCp.callE (K.spec_TyText r3 r4 h_r4) (by simp only [gE, ↓gT, ↓reduceIte, reduceCtorEq, reduceAdd, reduceEqDiff, reduceLeDiff, reduceLT, eq_false hc2]) (by simp only [scT, esT, and_self, true_and, and_true]) (by simp only [scT, esT, and_self, true_and, and_true]) ?_
    try simp only [gE, ↓gT, ↓reduceIte, reduceCtorEq, reduceAdd, reduceEqDiff, reduceLeDiff, reduceLT, eq_false hc2]; (repeat intro (_ : _ ≤ lim))
    refine SemF.seq rfl ?_
    refine SemF.reg true rfl ?_
    try simp only [gE, ↓gT, ↓reduceIte, reduceCtorEq, reduceAdd, reduceEqDiff, reduceLeDiff, reduceLT, eq_false hc2]; (repeat intro (_ : _ ≤ lim))
    obtain ⟨r5, h_r5, h⟩ := bs h
    refine HCp.callE (K.laws_toTy p0 r5 h_r5) (by simp only [gE, ↓gT, ↓reduceIte, reduceCtorEq, reduceAdd, reduceEqDiff, reduceLeDiff, reduceLT, eq_false hc2]) (by simp only [scT, esT, and_self, true_and, and_true]) (by simp only [scT, esT, and_self, true_and, and_true]) ?_
    try simp only [gE, ↓gT, ↓reduceIte, reduceCtorEq, reduceAdd, reduceEqDiff, reduceLeDiff, reduceLT, eq_false hc2]; (repeat intro (_ : _ ≤ lim))
    refine SemF.seq rfl ?_
    refine SemF.reg true rfl ?_
    try simp only [gE, ↓gT, ↓reduceIte, reduceCtorEq, reduceAdd, reduceEqDiff, reduceLeDiff, reduceLT, eq_false hc2]; (repeat intro (_ : _ ≤ lim))
    obtain ⟨r6, h_r6, h⟩ := bs h
    refine HCp.callE (K.impl_TyText r5 r6 h_r6) (by simp only [gE, ↓gT, ↓reduceIte, reduceCtorEq, reduceAdd, reduceEqDiff, reduceLeDiff, reduceLT, eq_false hc2]) (by simp only [scT, esT, and_self, true_and, and_true]) (by simp only [scT, esT, and_self, true_and, and_true]) ?_
    try simp only [gE, ↓gT, ↓reduceIte, reduceCtorEq, reduceAdd, reduceEqDiff, reduceLeDiff, reduceLT, eq_false hc2]; (repeat intro (_ : _ ≤ lim))
    refine SemF.seq rfl ?_
    refine SemF.seq rfl ?_
    refine SemF.reg true rfl ?_
    try simp only [gE, ↓gT, ↓reduceIte, reduceCtorEq, reduceAdd, reduceEqDiff, reduceLeDiff, reduceLT, eq_false hc2]; (repeat intro (_ : _ ≤ lim))
    by_cases hc7 : r6 = r4
    · rw [if_pos hc7] at h
      refine SemF.cond rfl ?_
      simp only [gE, ↓gT, ↓reduceIte, reduceCtorEq, reduceAdd, reduceEqDiff, reduceLeDiff, reduceLT, eq_false hc2, eq_true hc7]
      refine SemF.skip rfl ?_
      simp only [gE, ↓gT, ↓reduceIte, reduceCtorEq, reduceAdd, reduceEqDiff, reduceLeDiff, reduceLT, eq_false hc2, eq_true hc7]
      refine SemF.seq rfl ?_
      refine SemF.seq rfl ?_
      refine SemF.dreg true rfl ?_
      try simp only [gE, ↓gT, ↓reduceIte, reduceCtorEq, reduceAdd, reduceEqDiff, reduceLeDiff, reduceLT, eq_false hc2, eq_true hc7]; (repeat intro (_ : _ ≤ lim))
      obtain ⟨r8, h_r8, h⟩ := bs h
      refine HCp.callE (K.laws_toTy p0 r8 h_r8) (by simp only [gE, ↓gT, ↓reduceIte, reduceCtorEq, reduceAdd, reduceEqDiff, reduceLeDiff, reduceLT, eq_false hc2, eq_true hc7]) (by simp only [scT, esT, and_self, true_and, and_true]) (by simp only [scT, esT, and_self, true_and, and_true]) ?_
      try simp only [gE, ↓gT, ↓reduceIte, reduceCtorEq, reduceAdd, reduceEqDiff, reduceLeDiff, reduceLT, eq_false hc2, eq_true hc7]; (repeat intro (_ : _ ≤ lim))
      obtain ⟨r9, h_r9, h⟩ := bs h
      refine HCp.callE (K.laws_eqTy (r5, r8) r9 h_r9) (by simp only [gE, ↓gT, ↓reduceIte, reduceCtorEq, reduceAdd, reduceEqDiff, reduceLeDiff, reduceLT, eq_false hc2, eq_true hc7]) (by simp only [scT, esT, and_self, true_and, and_true]) (by simp only [scT, esT, and_self, true_and, and_true]) ?_
      try simp only [gE, ↓gT, ↓reduceIte, reduceCtorEq, reduceAdd, reduceEqDiff, reduceLeDiff, reduceLT, eq_false hc2, eq_true hc7]; (repeat intro (_ : _ ≤ lim))
      by_cases hc10 : r9 = true
      · rw [if_pos hc10] at h
        refine SemF.cond rfl ?_
        simp only [gE, ↓gT, ↓reduceIte, reduceCtorEq, reduceAdd, reduceEqDiff, reduceLeDiff, reduceLT, eq_false hc2, eq_true hc7, hc10]
        refine SemF.skip rfl ?_
        simp only [gE, ↓gT, ↓reduceIte, reduceCtorEq, reduceAdd, reduceEqDiff, reduceLeDiff, reduceLT, eq_false hc2, eq_true hc7, hc10]
        refine SemF.seq rfl ?_
        refine SemF.reg true rfl ?_
        try simp only [gE, ↓gT, ↓reduceIte, reduceCtorEq, reduceAdd, reduceEqDiff, reduceLeDiff, reduceLT, eq_false hc2, eq_true hc7, hc10]; (repeat intro (_ : _ ≤ lim))
        refine SemF.ret rfl ?_
        try simp only [gE, ↓gT, ↓reduceIte, reduceCtorEq, reduceAdd, reduceEqDiff, reduceLeDiff, reduceLT, eq_false hc2, eq_true hc7, hc10]; (repeat intro (_ : _ ≤ lim))
        obtain rfl := Option.some.inj h
        simp only [gE, ↓gT, ↓reduceIte, reduceCtorEq, reduceAdd, reduceEqDiff, reduceLeDiff, reduceLT, RetP_def, eq_false hc2, eq_true hc7, hc10]
      · rw [if_neg hc10] at h
        replace hc10 := eq_false_of_ne_true hc10
        refine SemF.cond rfl ?_
        simp only [gE, ↓gT, ↓reduceIte, reduceCtorEq, reduceAdd, reduceEqDiff, reduceLeDiff, reduceLT, eq_false hc2, eq_true hc7, hc10]
        refine SemF.seq rfl ?_
        refine SemF.reg true rfl ?_
        try simp only [gE, ↓gT, ↓reduceIte, reduceCtorEq, reduceAdd, reduceEqDiff, reduceLeDiff, reduceLT, eq_false hc2, eq_true hc7, hc10]; (repeat intro (_ : _ ≤ lim))
        refine SemF.ret rfl ?_
        try simp only [gE, ↓gT, ↓reduceIte, reduceCtorEq, reduceAdd, reduceEqDiff, reduceLeDiff, reduceLT, eq_false hc2, eq_true hc7, hc10]; (repeat intro (_ : _ ≤ lim))
        obtain rfl := Option.some.inj h
        simp only [gE, ↓gT, ↓reduceIte, reduceCtorEq, reduceAdd, reduceEqDiff, reduceLeDiff, reduceLT, RetP_def, eq_false hc2, eq_true hc7, hc10]
    · rw [if_neg hc7] at h
      refine SemF.cond rfl ?_
      simp only [gE, ↓gT, ↓reduceIte, reduceCtorEq, reduceAdd, reduceEqDiff, reduceLeDiff, reduceLT, eq_false hc2, eq_false hc7]
      refine SemF.seq rfl ?_
      refine SemF.reg true rfl ?_
      try simp only [gE, ↓gT, ↓reduceIte, reduceCtorEq, reduceAdd, reduceEqDiff, reduceLeDiff, reduceLT, eq_false hc2, eq_false hc7]; (repeat intro (_ : _ ≤ lim))
      refine SemF.ret rfl ?_
      try simp only [gE, ↓gT, ↓reduceIte, reduceCtorEq, reduceAdd, reduceEqDiff, reduceLeDiff, reduceLT, eq_false hc2, eq_false hc7]; (repeat intro (_ : _ ≤ lim))
      obtain rfl := Option.some.inj h
      simp only [gE, ↓gT, ↓reduceIte, reduceCtorEq, reduceAdd, reduceEqDiff, reduceLeDiff, reduceLT, RetP_def, eq_false hc2, eq_false hc7]
end K
end W
