import Derived.Test.YtnhdobhfebiggaaDoorUPrf2
namespace W
set_option linter.unusedSimpArgs false
set_option linter.unusedVariables false
open Go HL S
open Nat (reduceAdd reduceEqDiff reduceLeDiff reduceSub reduceMul reduceLT)
set_option linter.unusedVariables false
set_option maxRecDepth 100000
set_option maxHeartbeats 4000000
namespace K
theorem spec_l5Num_step (f_spec_l5Num : Int → Option ByteArray) (ih_spec_l5Num : ∀ (x : Int) (r : ByteArray), f_spec_l5Num x = some r → HCp P F.spec_l5Num [(.int .i64 x)] (HV.str r)) (x : Int) (r : ByteArray) (h : (if x < 10 then some (bsOf ([(IntKind.u8.wrap (IntKind.i64.wrap (48 + x)))])) else
    (f_spec_l5Num (IntKind.i64.wrap (Int.tdiv x 10)) >>= fun r2 =>
    (gd (r2.size + (bsOf ([(IntKind.u8.wrap (IntKind.i64.wrap (48 + (Int.tmod x 10))))])).size ≤ lim) >>= fun u4 =>
    some (r2 ++ (bsOf ([(IntKind.u8.wrap (IntKind.i64.wrap (48 + (Int.tmod x 10))))])))))) = some r) : HCp P F.spec_l5Num [(.int .i64 x)] (HV.str r) := by
  revert h; revert x; intro p0 h
  try dsimp only at h
  refine HCp.mkF S.spec_l5Num (by simp [H.spec_l5Num]) (by simp only [scT, esT, and_self, true_and, and_true]) ?_
  simp only [gE, ↓gT, ↓reduceIte, reduceCtorEq, reduceAdd, reduceEqDiff, reduceLeDiff, reduceLT, H.spec_l5Num]
  refine SemF.seq rfl ?_
  refine SemF.reg true rfl ?_
  try simp only [gE, ↓gT, ↓reduceIte, reduceCtorEq, reduceAdd, reduceEqDiff, reduceLeDiff, reduceLT]; (repeat intro (_ : _ ≤ lim))
  refine SemF.seq rfl ?_
  refine SemF.seq rfl ?_
  refine SemF.reg true rfl ?_
  try simp only [gE, ↓gT, ↓reduceIte, reduceCtorEq, reduceAdd, reduceEqDiff, reduceLeDiff, reduceLT]; (repeat intro (_ : _ ≤ lim))
  by_cases hc1 : p0 < 10
  · rw [if_pos hc1] at h
    refine SemF.cond rfl ?_
    simp only [gE, ↓gT, ↓reduceIte, reduceCtorEq, reduceAdd, reduceEqDiff, reduceLeDiff, reduceLT, eq_true hc1]
    refine SemF.seq rfl ?_
    refine SemF.reg true rfl ?_
    try simp only [gE, ↓gT, ↓reduceIte, reduceCtorEq, reduceAdd, reduceEqDiff, reduceLeDiff, reduceLT, eq_true hc1]; (repeat intro (_ : _ ≤ lim))
    refine SemF.ret rfl ?_
    try simp only [gE, ↓gT, ↓reduceIte, reduceCtorEq, reduceAdd, reduceEqDiff, reduceLeDiff, reduceLT, eq_true hc1]; (repeat intro (_ : _ ≤ lim))
    obtain rfl := Option.some.inj h
    simp only [gE, ↓gT, ↓reduceIte, reduceCtorEq, reduceAdd, reduceEqDiff, reduceLeDiff, reduceLT, RetP_def, eq_true hc1]
  · rw [if_neg hc1] at h
    refine SemF.cond rfl ?_
    simp only [gE, ↓gT, ↓reduceIte, reduceCtorEq, reduceAdd, reduceEqDiff, reduceLeDiff, reduceLT, eq_false hc1]
    refine SemF.skip rfl ?_
    simp only [gE, ↓gT, ↓reduceIte, reduceCtorEq, reduceAdd, reduceEqDiff, reduceLeDiff, reduceLT, eq_false hc1]
    refine SemF.seq rfl ?_
    refine SemF.dreg true rfl ?_
    try simp only [gE, ↓gT, ↓reduceIte, reduceCtorEq, reduceAdd, reduceEqDiff, reduceLeDiff, reduceLT, eq_false hc1]; (repeat intro (_ : _ ≤ lim))
    try simp only [gE, ↓gT, ↓reduceIte, reduceCtorEq, reduceAdd, reduceEqDiff, reduceLeDiff, reduceLT, eq_false hc1, eq_false (show ¬ (10 : Int) = 0 by decide)]; (repeat intro (_ : _ ≤ lim))
    try simp only [gE, ↓gT, ↓reduceIte, reduceCtorEq, reduceAdd, reduceEqDiff, reduceLeDiff, reduceLT, eq_false hc1, eq_false (show ¬ (10 : Int) = 0 by decide)]; (repeat intro (_ : _ ≤ lim))
    refine ⟨?_, ?_⟩
    · obtain ⟨r2, h_r2, h⟩ := bs h
      refine HCp.callE (ih_spec_l5Num (IntKind.i64.wrap (Int.tdiv p0 10)) r2 h_r2) (by simp only [gE, ↓gT, ↓reduceIte, reduceCtorEq, reduceAdd, reduceEqDiff, reduceLeDiff, reduceLT, eq_false hc1, eq_false (show ¬ (10 : Int) = 0 by decide)]) (by simp only [scT, esT, and_self, true_and, and_true]) (by simp only [scT, esT, and_self, true_and, and_true]) ?_
      try simp only [gE, ↓gT, ↓reduceIte, reduceCtorEq, reduceAdd, reduceEqDiff, reduceLeDiff, reduceLT, eq_false hc1, eq_false (show ¬ (10 : Int) = 0 by decide)]; (repeat intro (_ : _ ≤ lim))
      obtain ⟨u4, h_u4, h⟩ := bs h
      have hg3 := gd_some h_u4
      try simp only [gE, ↓gT, ↓reduceIte, reduceCtorEq, reduceAdd, reduceEqDiff, reduceLeDiff, reduceLT, eq_false hc1, eq_false (show ¬ (10 : Int) = 0 by decide), eq_true hg3]; (repeat intro (_ : _ ≤ lim))
      refine SemF.ret rfl ?_
      try simp only [gE, ↓gT, ↓reduceIte, reduceCtorEq, reduceAdd, reduceEqDiff, reduceLeDiff, reduceLT, eq_false hc1, eq_false (show ¬ (10 : Int) = 0 by decide), eq_true hg3]; (repeat intro (_ : _ ≤ lim))
      obtain rfl := Option.some.inj h
      simp only [gE, ↓gT, ↓reduceIte, reduceCtorEq, reduceAdd, reduceEqDiff, reduceLeDiff, reduceLT, RetP_def, eq_false hc1, eq_false (show ¬ (10 : Int) = 0 by decide), eq_true hg3]
    · obtain ⟨r2, h_r2, h⟩ := bs h
      refine HCp.callE (ih_spec_l5Num (IntKind.i64.wrap (Int.tdiv p0 10)) r2 h_r2) (by simp only [gE, ↓gT, ↓reduceIte, reduceCtorEq, reduceAdd, reduceEqDiff, reduceLeDiff, reduceLT, eq_false hc1, eq_false (show ¬ (10 : Int) = 0 by decide)]) (by simp only [scT, esT, and_self, true_and, and_true]) (by simp only [scT, esT, and_self, true_and, and_true]) ?_
      try simp only [gE, ↓gT, ↓reduceIte, reduceCtorEq, reduceAdd, reduceEqDiff, reduceLeDiff, reduceLT, eq_false hc1, eq_false (show ¬ (10 : Int) = 0 by decide)]; (repeat intro (_ : _ ≤ lim))
      obtain ⟨u4, h_u4, h⟩ := bs h
      have hg3 := gd_some h_u4
      try simp only [gE, ↓gT, ↓reduceIte, reduceCtorEq, reduceAdd, reduceEqDiff, reduceLeDiff, reduceLT, eq_false hc1, eq_false (show ¬ (10 : Int) = 0 by decide), eq_true hg3]; (repeat intro (_ : _ ≤ lim))
      refine SemF.ret rfl ?_
      try simp only [gE, ↓gT, ↓reduceIte, reduceCtorEq, reduceAdd, reduceEqDiff, reduceLeDiff, reduceLT, eq_false hc1, eq_false (show ¬ (10 : Int) = 0 by decide), eq_true hg3]; (repeat intro (_ : _ ≤ lim))
      obtain rfl := Option.some.inj h
      simp only [gE, ↓gT, ↓reduceIte, reduceCtorEq, reduceAdd, reduceEqDiff, reduceLeDiff, reduceLT, RetP_def, eq_false hc1, eq_false (show ¬ (10 : Int) = 0 by decide), eq_true hg3]
theorem spec_l5Num_all : (∀ (x : Int) (r : ByteArray), M.spec_l5Num x = some r → HCp P F.spec_l5Num [(.int .i64 x)] (HV.str r)) := by
  refine M.spec_l5Num.partial_correctness (motive := fun x r => HCp P F.spec_l5Num [(.int .i64 x)] (HV.str r)) ?_
  · exact fun f_spec_l5Num ih_spec_l5Num x r h => K.spec_l5Num_step f_spec_l5Num ih_spec_l5Num x r h
theorem spec_l5Num : (∀ (x : Int) (r : ByteArray), M.spec_l5Num x = some r → HCp P F.spec_l5Num [(.int .i64 x)] (HV.str r)) := K.spec_l5Num_all
theorem spec_l13Num : ∀ (x : Int) (r : ByteArray), M.spec_l13Num x = some r → HCp P F.spec_l13Num [(.int .i64 x)] (HV.str r) := by
  intro x r h
  revert h; revert x; intro p0 h
  unfold M.spec_l13Num at h
  try dsimp only at h
  refine HCp.mkF S.spec_l13Num (by simp [H.spec_l13Num]) (by simp only [scT, esT, and_self, true_and, and_true]) ?_
  simp only [gE, ↓gT, ↓reduceIte, reduceCtorEq, reduceAdd, reduceEqDiff, reduceLeDiff, reduceLT, H.spec_l13Num]
  refine SemF.seq rfl ?_
  refine SemF.reg true rfl ?_
  try simp only [gE, ↓gT, ↓reduceIte, reduceCtorEq, reduceAdd, reduceEqDiff, reduceLeDiff, reduceLT]; (repeat intro (_ : _ ≤ lim))
  refine SemF.seq rfl ?_
  refine SemF.seq rfl ?_
  refine SemF.reg true rfl ?_
  try simp only [gE, ↓gT, ↓reduceIte, reduceCtorEq, reduceAdd, reduceEqDiff, reduceLeDiff, reduceLT]; (repeat intro (_ : _ ≤ lim))
  by_cases hc1 : p0 < 0
  · rw [if_pos hc1] at h
    try simp only [gE, ↓gT, ↓reduceIte, reduceCtorEq, reduceAdd, reduceEqDiff, reduceLeDiff, reduceLT, eq_true hc1]; (repeat intro (_ : _ ≤ lim))
    by_cases hc2 : (-1000000000) < p0
    · rw [if_pos hc2] at h
      refine SemF.cond rfl ?_
      simp only [gE, ↓gT, ↓reduceIte, reduceCtorEq, reduceAdd, reduceEqDiff, reduceLeDiff, reduceLT, eq_true hc1, eq_true hc2]
      refine SemF.seq rfl ?_
      refine SemF.reg true rfl ?_
      try simp only [gE, ↓gT, ↓reduceIte, reduceCtorEq, reduceAdd, reduceEqDiff, reduceLeDiff, reduceLT, eq_true hc1, eq_true hc2]; (repeat intro (_ : _ ≤ lim))
      obtain ⟨r3, h_r3, h⟩ := bs h
      refine HCp.callE (K.spec_l5Num (IntKind.i64.wrap (0 - p0)) r3 h_r3) (by simp only [gE, ↓gT, ↓reduceIte, reduceCtorEq, reduceAdd, reduceEqDiff, reduceLeDiff, reduceLT, eq_true hc1, eq_true hc2]) (by simp only [scT, esT, and_self, true_and, and_true]) (by simp only [scT, esT, and_self, true_and, and_true]) ?_
      try simp only [gE, ↓gT, ↓reduceIte, reduceCtorEq, reduceAdd, reduceEqDiff, reduceLeDiff, reduceLT, eq_true hc1, eq_true hc2]; (repeat intro (_ : _ ≤ lim))
      obtain ⟨u5, h_u5, h⟩ := bs h
      have hg4 := gd_some h_u5
      try simp only [gE, ↓gT, ↓reduceIte, reduceCtorEq, reduceAdd, reduceEqDiff, reduceLeDiff, reduceLT, eq_true hc1, eq_true hc2, eq_true hg4]; (repeat intro (_ : _ ≤ lim))
      refine SemF.ret rfl ?_
      try simp only [gE, ↓gT, ↓reduceIte, reduceCtorEq, reduceAdd, reduceEqDiff, reduceLeDiff, reduceLT, eq_true hc1, eq_true hc2, eq_true hg4]; (repeat intro (_ : _ ≤ lim))
      obtain rfl := Option.some.inj h
      simp only [gE, ↓gT, ↓reduceIte, reduceCtorEq, reduceAdd, reduceEqDiff, reduceLeDiff, reduceLT, RetP_def, eq_true hc1, eq_true hc2, eq_true hg4]
    · rw [if_neg hc2] at h
      refine SemF.cond rfl ?_
      simp only [gE, ↓gT, ↓reduceIte, reduceCtorEq, reduceAdd, reduceEqDiff, reduceLeDiff, reduceLT, eq_true hc1, eq_false hc2]
      refine SemF.skip rfl ?_
      simp only [gE, ↓gT, ↓reduceIte, reduceCtorEq, reduceAdd, reduceEqDiff, reduceLeDiff, reduceLT, eq_true hc1, eq_false hc2]
      refine SemF.seq rfl ?_
      refine SemF.seq rfl ?_
      refine SemF.reg true rfl ?_
      try simp only [gE, ↓gT, ↓reduceIte, reduceCtorEq, reduceAdd, reduceEqDiff, reduceLeDiff, reduceLT, eq_true hc1, eq_false hc2]; (repeat intro (_ : _ ≤ lim))
      refine SemF.cond rfl ?_
      simp only [gE, ↓gT, ↓reduceIte, reduceCtorEq, reduceAdd, reduceEqDiff, reduceLeDiff, reduceLT, eq_true hc1, eq_false hc2]
      refine SemF.seq rfl ?_
      refine SemF.reg true rfl ?_
      try simp only [gE, ↓gT, ↓reduceIte, reduceCtorEq, reduceAdd, reduceEqDiff, reduceLeDiff, reduceLT, eq_true hc1, eq_false hc2]; (repeat intro (_ : _ ≤ lim))
      refine SemF.ret rfl ?_
      try simp only [gE, ↓gT, ↓reduceIte, reduceCtorEq, reduceAdd, reduceEqDiff, reduceLeDiff, reduceLT, eq_true hc1, eq_false hc2]; (repeat intro (_ : _ ≤ lim))
      obtain rfl := Option.some.inj h
      simp only [gE, ↓gT, ↓reduceIte, reduceCtorEq, reduceAdd, reduceEqDiff, reduceLeDiff, reduceLT, RetP_def, eq_true hc1, eq_false hc2]
  · rw [if_neg hc1] at h
    try simp only [gE, ↓gT, ↓reduceIte, reduceCtorEq, reduceAdd, reduceEqDiff, reduceLeDiff, reduceLT, eq_false hc1]; (repeat intro (_ : _ ≤ lim))
    refine SemF.cond rfl ?_
    simp only [gE, ↓gT, ↓reduceIte, reduceCtorEq, reduceAdd, reduceEqDiff, reduceLeDiff, reduceLT, eq_false hc1]
    refine SemF.skip rfl ?_
    simp only [gE, ↓gT, ↓reduceIte, reduceCtorEq, reduceAdd, reduceEqDiff, reduceLeDiff, reduceLT, eq_false hc1]
    refine SemF.seq rfl ?_
    refine SemF.seq rfl ?_
    refine SemF.reg true rfl ?_
    try simp only [gE, ↓gT, ↓reduceIte, reduceCtorEq, reduceAdd, reduceEqDiff, reduceLeDiff, reduceLT, eq_false hc1]; (repeat intro (_ : _ ≤ lim))
    refine SemF.cond rfl ?_
    simp only [gE, ↓gT, ↓reduceIte, reduceCtorEq, reduceAdd, reduceEqDiff, reduceLeDiff, reduceLT, eq_false hc1]
    refine SemF.skip rfl ?_
    simp only [gE, ↓gT, ↓reduceIte, reduceCtorEq, reduceAdd, reduceEqDiff, reduceLeDiff, reduceLT, eq_false hc1]
    refine SemF.seq rfl ?_
    refine SemF.reg true rfl ?_
    try simp only [gE, ↓gT, ↓reduceIte, reduceCtorEq, reduceAdd, reduceEqDiff, reduceLeDiff, reduceLT, eq_false hc1]; (repeat intro (_ : _ ≤ lim))
    obtain ⟨r6, h_r6, h⟩ := bs h
    refine HCp.callE (K.spec_l5Num p0 r6 h_r6) (by simp only [gE, ↓gT, ↓reduceIte, reduceCtorEq, reduceAdd, reduceEqDiff, reduceLeDiff, reduceLT, eq_false hc1]) (by simp only [scT, esT, and_self, true_and, and_true]) (by simp only [scT, esT, and_self, true_and, and_true]) ?_
    try simp only [gE, ↓gT, ↓reduceIte, reduceCtorEq, reduceAdd, reduceEqDiff, reduceLeDiff, reduceLT, eq_false hc1]; (repeat intro (_ : _ ≤ lim))
    refine SemF.ret rfl ?_
    try simp only [gE, ↓gT, ↓reduceIte, reduceCtorEq, reduceAdd, reduceEqDiff, reduceLeDiff, reduceLT, eq_false hc1]; (repeat intro (_ : _ ≤ lim))
    obtain rfl := Option.some.inj h
    simp only [gE, ↓gT, ↓reduceIte, reduceCtorEq, reduceAdd, reduceEqDiff, reduceLeDiff, reduceLT, RetP_def, eq_false hc1]
theorem spec_l13Text_step (f_spec_l13Text_L0 : (Int × Res × ByteArray × Int) → Option (Sum (ByteArray × Bool) ByteArray)) (ih_spec_l13Text_L0 : ∀ (x : (Int × Res × ByteArray × Int)) (out : (Sum (ByteArray × Bool) ByteArray)), f_spec_l13Text_L0 x = some out → ∀ Q : HExit → Env → St → Prop, (∀ v, out = .inr v → ∀ env st sel, Weak 0 sel [(6, (.str v))] [] env st → Q (.exit 1) env st) → (∀ r, out = .inl r → ∀ env st, RetP [(4, none), (5, none)] (HV.tup [(HV.str r.1), (HV.bool r.2)]) env st → Q .ret env st) → SemL P H.spec_l13Text.ntmps 0 H.spec_l13Text_l28 [(1, (.int .i64 x.1)), (2, (.ptr 0 1 0 0)), (6, (.str x.2.2.1)), (7, (.int .i64 x.2.2.2))] [(.box (Res.enc x.2.1))] Q) (x : (Res × Int)) (r : (ByteArray × Bool)) (h : (if 6 < x.2 then some ((⟨⟨[]⟩⟩ : ByteArray), false) else
    (if x.1.K = 1 then (M.spec_l13Num x.1.N >>= fun r3 =>
    (M.spec_l1In (x.1.N, (-999999999), 999999999) >>= fun r4 =>
    some (r3, r4))) else
    (if x.1.K = 3 then some ((⟨⟨[60, 102, 117, 110, 99, 116, 105, 111, 110, 62]⟩⟩ : ByteArray), true) else
    (if x.1.K = 4 then some ((⟨⟨[60, 102, 97, 105, 108, 62]⟩⟩ : ByteArray), true) else
    (if x.1.K = 5 then some ((⟨⟨[60, 104, 111, 108, 101, 62]⟩⟩ : ByteArray), true) else
    (if x.1.K = 6 then some ((⟨⟨[60, 102, 117, 101, 108, 62]⟩⟩ : ByteArray), true) else
    (if x.1.K = 7 then some ((⟨⟨[46, 46, 46]⟩⟩ : ByteArray), true) else
    (if x.1.K = 2 then (f_spec_l13Text_L0 (x.2, x.1, x.1.S, 0) >>= fun s75 =>
    (match s75 with
    | .inl r76 => some r76
    | .inr v77 => some (v77, true))) else
    some ((⟨⟨[]⟩⟩ : ByteArray), false))))))))) = some r) : HCp P F.spec_l13Text [(Res.enc x.1), (.int .i64 x.2)] (HV.tup [(HV.str r.1), (HV.bool r.2)]) := by
  obtain ⟨p0, p1⟩ := x
  try dsimp only at h
  refine HCp.mkF S.spec_l13Text (by simp [H.spec_l13Text]) (by simp only [scT, esT, and_self, true_and, and_true]) ?_
  simp only [gE, ↓gT, ↓reduceIte, reduceCtorEq, reduceAdd, reduceEqDiff, reduceLeDiff, reduceLT, H.spec_l13Text]
  refine SemF.seq rfl ?_
  refine SemF.reg true rfl ?_
  try simp only [gE, ↓gT, ↓reduceIte, reduceCtorEq, reduceAdd, reduceEqDiff, reduceLeDiff, reduceLT]; (repeat intro (_ : _ ≤ lim))
  refine SemF.seq rfl ?_
  refine SemF.seq rfl ?_
  refine SemF.reg true rfl ?_
  try simp only [gE, ↓gT, ↓reduceIte, reduceCtorEq, reduceAdd, reduceEqDiff, reduceLeDiff, reduceLT]; (repeat intro (_ : _ ≤ lim))
  by_cases hc1 : 6 < p1
  · rw [if_pos hc1] at h
    refine SemF.cond rfl ?_
    simp only [gE, ↓gT, ↓reduceIte, reduceCtorEq, reduceAdd, reduceEqDiff, reduceLeDiff, reduceLT, eq_true hc1]
    refine SemF.seq rfl ?_
    refine SemF.reg true rfl ?_
    try simp only [gE, ↓gT, ↓reduceIte, reduceCtorEq, reduceAdd, reduceEqDiff, reduceLeDiff, reduceLT, eq_true hc1]; (repeat intro (_ : _ ≤ lim))
    refine SemF.ret rfl ?_
    try simp only [gE, ↓gT, ↓reduceIte, reduceCtorEq, reduceAdd, reduceEqDiff, reduceLeDiff, reduceLT, eq_true hc1]; (repeat intro (_ : _ ≤ lim))
    obtain rfl := Option.some.inj h
    simp only [gE, ↓gT, ↓reduceIte, reduceCtorEq, reduceAdd, reduceEqDiff, reduceLeDiff, reduceLT, RetP_def, eq_true hc1]
  · rw [if_neg hc1] at h
    refine SemF.cond rfl ?_
    simp only [gE, ↓gT, ↓reduceIte, reduceCtorEq, reduceAdd, reduceEqDiff, reduceLeDiff, reduceLT, eq_false hc1]
    refine SemF.skip rfl ?_
    simp only [gE, ↓gT, ↓reduceIte, reduceCtorEq, reduceAdd, reduceEqDiff, reduceLeDiff, reduceLT, eq_false hc1]
    refine SemF.seq rfl ?_
    refine SemF.seq rfl ?_
    refine SemF.reg true rfl ?_
    try simp only [gE, ↓gT, ↓reduceIte, reduceCtorEq, reduceAdd, reduceEqDiff, reduceLeDiff, reduceLT, eq_false hc1]; (repeat intro (_ : _ ≤ lim))
    refine SemF.block rfl ?_
    refine SemF.seq rfl ?_
    refine SemF.reg true rfl ?_
    try simp only [gE, ↓gT, ↓reduceIte, reduceCtorEq, reduceAdd, reduceEqDiff, reduceLeDiff, reduceLT, eq_false hc1]; (repeat intro (_ : _ ≤ lim))
    by_cases hc2 : p0.K = 1
    · rw [if_pos hc2] at h
      refine SemF.cond rfl ?_
      simp only [gE, ↓gT, ↓reduceIte, reduceCtorEq, reduceAdd, reduceEqDiff, reduceLeDiff, reduceLT, eq_false hc1, eq_true hc2]
      refine SemF.seq rfl ?_
      refine SemF.dreg true rfl ?_
      try simp only [gE, ↓gT, ↓reduceIte, reduceCtorEq, reduceAdd, reduceEqDiff, reduceLeDiff, reduceLT, eq_false hc1, eq_true hc2]; (repeat intro (_ : _ ≤ lim))
      obtain ⟨r3, h_r3, h⟩ := bs h
      refine HCp.callE (K.spec_l13Num p0.N r3 h_r3) (by simp only [gE, ↓gT, ↓reduceIte, reduceCtorEq, reduceAdd, reduceEqDiff, reduceLeDiff, reduceLT, eq_false hc1, eq_true hc2]) (by simp only [scT, esT, and_self, true_and, and_true]) (by simp only [scT, esT, and_self, true_and, and_true]) ?_
      try simp only [gE, ↓gT, ↓reduceIte, reduceCtorEq, reduceAdd, reduceEqDiff, reduceLeDiff, reduceLT, eq_false hc1, eq_true hc2]; (repeat intro (_ : _ ≤ lim))
      obtain ⟨r4, h_r4, h⟩ := bs h
      refine HCp.callE (K.spec_l1In (p0.N, (-999999999), 999999999) r4 h_r4) (by simp only [gE, ↓gT, ↓reduceIte, reduceCtorEq, reduceAdd, reduceEqDiff, reduceLeDiff, reduceLT, eq_false hc1, eq_true hc2]) (by simp only [scT, esT, and_self, true_and, and_true]) (by simp only [scT, esT, and_self, true_and, and_true]) ?_
      try simp only [gE, ↓gT, ↓reduceIte, reduceCtorEq, reduceAdd, reduceEqDiff, reduceLeDiff, reduceLT, eq_false hc1, eq_true hc2]; (repeat intro (_ : _ ≤ lim))
      refine SemF.ret rfl ?_
      try simp only [gE, ↓gT, ↓reduceIte, reduceCtorEq, reduceAdd, reduceEqDiff, reduceLeDiff, reduceLT, eq_false hc1, eq_true hc2]; (repeat intro (_ : _ ≤ lim))
      obtain rfl := Option.some.inj h
      simp only [gE, ↓gT, ↓reduceIte, reduceCtorEq, reduceAdd, reduceEqDiff, reduceLeDiff, reduceLT, RetP_def, eq_false hc1, eq_true hc2]
    · rw [if_neg hc2] at h
      refine SemF.cond rfl ?_
      simp only [gE, ↓gT, ↓reduceIte, reduceCtorEq, reduceAdd, reduceEqDiff, reduceLeDiff, reduceLT, eq_false hc1, eq_false hc2]
      refine SemF.seq rfl ?_
      refine SemF.reg true rfl ?_
      try simp only [gE, ↓gT, ↓reduceIte, reduceCtorEq, reduceAdd, reduceEqDiff, reduceLeDiff, reduceLT, eq_false hc1, eq_false hc2]; (repeat intro (_ : _ ≤ lim))
      by_cases hc5 : p0.K = 3
      · rw [if_pos hc5] at h
        refine SemF.cond rfl ?_
        simp only [gE, ↓gT, ↓reduceIte, reduceCtorEq, reduceAdd, reduceEqDiff, reduceLeDiff, reduceLT, eq_false hc1, eq_false hc2, eq_true hc5]
        refine SemF.seq rfl ?_
        refine SemF.reg true rfl ?_
        try simp only [gE, ↓gT, ↓reduceIte, reduceCtorEq, reduceAdd, reduceEqDiff, reduceLeDiff, reduceLT, eq_false hc1, eq_false hc2, eq_true hc5]; (repeat intro (_ : _ ≤ lim))
        refine SemF.ret rfl ?_
        try simp only [gE, ↓gT, ↓reduceIte, reduceCtorEq, reduceAdd, reduceEqDiff, reduceLeDiff, reduceLT, eq_false hc1, eq_false hc2, eq_true hc5]; (repeat intro (_ : _ ≤ lim))
        obtain rfl := Option.some.inj h
        simp only [gE, ↓gT, ↓reduceIte, reduceCtorEq, reduceAdd, reduceEqDiff, reduceLeDiff, reduceLT, RetP_def, eq_false hc1, eq_false hc2, eq_true hc5]
      · rw [if_neg hc5] at h
        refine SemF.cond rfl ?_
        simp only [gE, ↓gT, ↓reduceIte, reduceCtorEq, reduceAdd, reduceEqDiff, reduceLeDiff, reduceLT, eq_false hc1, eq_false hc2, eq_false hc5]
        refine SemF.seq rfl ?_
        refine SemF.reg true rfl ?_
        try simp only [gE, ↓gT, ↓reduceIte, reduceCtorEq, reduceAdd, reduceEqDiff, reduceLeDiff, reduceLT, eq_false hc1, eq_false hc2, eq_false hc5]; (repeat intro (_ : _ ≤ lim))
        by_cases hc6 : p0.K = 4
        · rw [if_pos hc6] at h
          refine SemF.cond rfl ?_
          simp only [gE, ↓gT, ↓reduceIte, reduceCtorEq, reduceAdd, reduceEqDiff, reduceLeDiff, reduceLT, eq_false hc1, eq_false hc2, eq_false hc5, eq_true hc6]
          refine SemF.seq rfl ?_
          refine SemF.reg true rfl ?_
          try simp only [gE, ↓gT, ↓reduceIte, reduceCtorEq, reduceAdd, reduceEqDiff, reduceLeDiff, reduceLT, eq_false hc1, eq_false hc2, eq_false hc5, eq_true hc6]; (repeat intro (_ : _ ≤ lim))
          refine SemF.ret rfl ?_
          try simp only [gE, ↓gT, ↓reduceIte, reduceCtorEq, reduceAdd, reduceEqDiff, reduceLeDiff, reduceLT, eq_false hc1, eq_false hc2, eq_false hc5, eq_true hc6]; (repeat intro (_ : _ ≤ lim))
          obtain rfl := Option.some.inj h
          simp only [gE, ↓gT, ↓reduceIte, reduceCtorEq, reduceAdd, reduceEqDiff, reduceLeDiff, reduceLT, RetP_def, eq_false hc1, eq_false hc2, eq_false hc5, eq_true hc6]
        · rw [if_neg hc6] at h
          refine SemF.cond rfl ?_
          simp only [gE, ↓gT, ↓reduceIte, reduceCtorEq, reduceAdd, reduceEqDiff, reduceLeDiff, reduceLT, eq_false hc1, eq_false hc2, eq_false hc5, eq_false hc6]
          refine SemF.seq rfl ?_
          refine SemF.reg true rfl ?_
          try simp only [gE, ↓gT, ↓reduceIte, reduceCtorEq, reduceAdd, reduceEqDiff, reduceLeDiff, reduceLT, eq_false hc1, eq_false hc2, eq_false hc5, eq_false hc6]; (repeat intro (_ : _ ≤ lim))
          by_cases hc7 : p0.K = 5
          · rw [if_pos hc7] at h
            refine SemF.cond rfl ?_
            simp only [gE, ↓gT, ↓reduceIte, reduceCtorEq, reduceAdd, reduceEqDiff, reduceLeDiff, reduceLT, eq_false hc1, eq_false hc2, eq_false hc5, eq_false hc6, eq_true hc7]
            refine SemF.seq rfl ?_
            refine SemF.reg true rfl ?_
            try simp only [gE, ↓gT, ↓reduceIte, reduceCtorEq, reduceAdd, reduceEqDiff, reduceLeDiff, reduceLT, eq_false hc1, eq_false hc2, eq_false hc5, eq_false hc6, eq_true hc7]; (repeat intro (_ : _ ≤ lim))
            refine SemF.ret rfl ?_
            try simp only [gE, ↓gT, ↓reduceIte, reduceCtorEq, reduceAdd, reduceEqDiff, reduceLeDiff, reduceLT, eq_false hc1, eq_false hc2, eq_false hc5, eq_false hc6, eq_true hc7]; (repeat intro (_ : _ ≤ lim))
            obtain rfl := Option.some.inj h
            simp only [gE, ↓gT, ↓reduceIte, reduceCtorEq, reduceAdd, reduceEqDiff, reduceLeDiff, reduceLT, RetP_def, eq_false hc1, eq_false hc2, eq_false hc5, eq_false hc6, eq_true hc7]
          · rw [if_neg hc7] at h
            refine SemF.cond rfl ?_
            simp only [gE, ↓gT, ↓reduceIte, reduceCtorEq, reduceAdd, reduceEqDiff, reduceLeDiff, reduceLT, eq_false hc1, eq_false hc2, eq_false hc5, eq_false hc6, eq_false hc7]
            refine SemF.seq rfl ?_
            refine SemF.reg true rfl ?_
            try simp only [gE, ↓gT, ↓reduceIte, reduceCtorEq, reduceAdd, reduceEqDiff, reduceLeDiff, reduceLT, eq_false hc1, eq_false hc2, eq_false hc5, eq_false hc6, eq_false hc7]; (repeat intro (_ : _ ≤ lim))
            by_cases hc8 : p0.K = 6
            · rw [if_pos hc8] at h
              refine SemF.cond rfl ?_
              simp only [gE, ↓gT, ↓reduceIte, reduceCtorEq, reduceAdd, reduceEqDiff, reduceLeDiff, reduceLT, eq_false hc1, eq_false hc2, eq_false hc5, eq_false hc6, eq_false hc7, eq_true hc8]
              refine SemF.seq rfl ?_
              refine SemF.reg true rfl ?_
              try simp only [gE, ↓gT, ↓reduceIte, reduceCtorEq, reduceAdd, reduceEqDiff, reduceLeDiff, reduceLT, eq_false hc1, eq_false hc2, eq_false hc5, eq_false hc6, eq_false hc7, eq_true hc8]; (repeat intro (_ : _ ≤ lim))
              refine SemF.ret rfl ?_
              try simp only [gE, ↓gT, ↓reduceIte, reduceCtorEq, reduceAdd, reduceEqDiff, reduceLeDiff, reduceLT, eq_false hc1, eq_false hc2, eq_false hc5, eq_false hc6, eq_false hc7, eq_true hc8]; (repeat intro (_ : _ ≤ lim))
              obtain rfl := Option.some.inj h
              simp only [gE, ↓gT, ↓reduceIte, reduceCtorEq, reduceAdd, reduceEqDiff, reduceLeDiff, reduceLT, RetP_def, eq_false hc1, eq_false hc2, eq_false hc5, eq_false hc6, eq_false hc7, eq_true hc8]
            · rw [if_neg hc8] at h
              refine SemF.cond rfl ?_
              simp only [gE, ↓gT, ↓reduceIte, reduceCtorEq, reduceAdd, reduceEqDiff, reduceLeDiff, reduceLT, eq_false hc1, eq_false hc2, eq_false hc5, eq_false hc6, eq_false hc7, eq_false hc8]
              refine SemF.seq rfl ?_
              refine SemF.reg true rfl ?_
              try simp only [gE, ↓gT, ↓reduceIte, reduceCtorEq, reduceAdd, reduceEqDiff, reduceLeDiff, reduceLT, eq_false hc1, eq_false hc2, eq_false hc5, eq_false hc6, eq_false hc7, eq_false hc8]; (repeat intro (_ : _ ≤ lim))
              by_cases hc9 : p0.K = 7
              · rw [if_pos hc9] at h
                refine SemF.cond rfl ?_
                simp only [gE, ↓gT, ↓reduceIte, reduceCtorEq, reduceAdd, reduceEqDiff, reduceLeDiff, reduceLT, eq_false hc1, eq_false hc2, eq_false hc5, eq_false hc6, eq_false hc7, eq_false hc8, eq_true hc9]
                refine SemF.seq rfl ?_
                refine SemF.reg true rfl ?_
                try simp only [gE, ↓gT, ↓reduceIte, reduceCtorEq, reduceAdd, reduceEqDiff, reduceLeDiff, reduceLT, eq_false hc1, eq_false hc2, eq_false hc5, eq_false hc6, eq_false hc7, eq_false hc8, eq_true hc9]; (repeat intro (_ : _ ≤ lim))
                refine SemF.ret rfl ?_
                try simp only [gE, ↓gT, ↓reduceIte, reduceCtorEq, reduceAdd, reduceEqDiff, reduceLeDiff, reduceLT, eq_false hc1, eq_false hc2, eq_false hc5, eq_false hc6, eq_false hc7, eq_false hc8, eq_true hc9]; (repeat intro (_ : _ ≤ lim))
                obtain rfl := Option.some.inj h
                simp only [gE, ↓gT, ↓reduceIte, reduceCtorEq, reduceAdd, reduceEqDiff, reduceLeDiff, reduceLT, RetP_def, eq_false hc1, eq_false hc2, eq_false hc5, eq_false hc6, eq_false hc7, eq_false hc8, eq_true hc9]
              · rw [if_neg hc9] at h
                refine SemF.cond rfl ?_
                simp only [gE, ↓gT, ↓reduceIte, reduceCtorEq, reduceAdd, reduceEqDiff, reduceLeDiff, reduceLT, eq_false hc1, eq_false hc2, eq_false hc5, eq_false hc6, eq_false hc7, eq_false hc8, eq_false hc9]
                refine SemF.seq rfl ?_
                refine SemF.reg true rfl ?_
                try simp only [gE, ↓gT, ↓reduceIte, reduceCtorEq, reduceAdd, reduceEqDiff, reduceLeDiff, reduceLT, eq_false hc1, eq_false hc2, eq_false hc5, eq_false hc6, eq_false hc7, eq_false hc8, eq_false hc9]; (repeat intro (_ : _ ≤ lim))
                by_cases hc10 : p0.K = 2
                · rw [if_pos hc10] at h
                  refine SemF.cond rfl ?_
                  simp only [gE, ↓gT, ↓reduceIte, reduceCtorEq, reduceAdd, reduceEqDiff, reduceLeDiff, reduceLT, eq_false hc1, eq_false hc2, eq_false hc5, eq_false hc6, eq_false hc7, eq_false hc8, eq_false hc9, eq_true hc10]
                  refine SemF.seq rfl ?_
                  refine SemF.reg true rfl ?_
                  try simp only [gE, ↓gT, ↓reduceIte, reduceCtorEq, reduceAdd, reduceEqDiff, reduceLeDiff, reduceLT, eq_false hc1, eq_false hc2, eq_false hc5, eq_false hc6, eq_false hc7, eq_false hc8, eq_false hc9, eq_true hc10]; (repeat intro (_ : _ ≤ lim))
                  refine SemF.seq rfl ?_
                  refine SemF.seq rfl ?_
                  refine SemF.reg true rfl ?_
                  try simp only [gE, ↓gT, ↓reduceIte, reduceCtorEq, reduceAdd, reduceEqDiff, reduceLeDiff, reduceLT, eq_false hc1, eq_false hc2, eq_false hc5, eq_false hc6, eq_false hc7, eq_false hc8, eq_false hc9, eq_true hc10]; (repeat intro (_ : _ ≤ lim))
                  refine SemF.block rfl ?_
                  obtain ⟨s75, h_s75, h⟩ := bs h
                  rcases s75 with r76 | v77
                  · dsimp only at h
                    refine SemF.loop rfl ?_
                    refine SemL.weak (sel := [0]) ⟨by simp only [gE, ↓gT, ↓reduceIte, reduceCtorEq, reduceAdd, reduceEqDiff, reduceLeDiff, reduceLT, hwT, selS, erT, eq_false hc1, eq_false hc2, eq_false hc5, eq_false hc6, eq_false hc7, eq_false hc8, eq_false hc9, eq_true hc10], by decide, by decide, by simp only [gE, ↓gT, ↓reduceIte, reduceCtorEq, reduceAdd, reduceEqDiff, reduceLeDiff, reduceLT, hwT, selS, erT, subR, eq_false hc1, eq_false hc2, eq_false hc5, eq_false hc6, eq_false hc7, eq_false hc8, eq_false hc9, eq_true hc10], by simp only [gE, ↓gT, ↓reduceIte, reduceCtorEq, reduceAdd, reduceEqDiff, reduceLeDiff, reduceLT, hwT, selS, erT, scT, esT, eq_false hc1, eq_false hc2, eq_false hc5, eq_false hc6, eq_false hc7, eq_false hc8, eq_false hc9, eq_true hc10], by simp only [gE, ↓gT, ↓reduceIte, reduceCtorEq, reduceAdd, reduceEqDiff, reduceLeDiff, reduceLT, hwT, selS, erT, scT, esT, eq_false hc1, eq_false hc2, eq_false hc5, eq_false hc6, eq_false hc7, eq_false hc8, eq_false hc9, eq_true hc10]⟩ (ih_spec_l13Text_L0 (p1, p0, p0.S, 0) (.inl r76) h_s75 _ ?_ ?_)
                    · intro v hv; cases hv
                    · intro r' hr' env st hy
                      cases hr'
                      simp only [gE, ↓gT, ↓reduceIte, reduceCtorEq, reduceAdd, reduceEqDiff, reduceLeDiff, reduceLT]
                      obtain rfl := Option.some.inj h
                      exact hy
                  · dsimp only at h
                    refine SemF.loop rfl ?_
                    refine SemL.weak (sel := [0]) ⟨by simp only [gE, ↓gT, ↓reduceIte, reduceCtorEq, reduceAdd, reduceEqDiff, reduceLeDiff, reduceLT, hwT, selS, erT, eq_false hc1, eq_false hc2, eq_false hc5, eq_false hc6, eq_false hc7, eq_false hc8, eq_false hc9, eq_true hc10], by decide, by decide, by simp only [gE, ↓gT, ↓reduceIte, reduceCtorEq, reduceAdd, reduceEqDiff, reduceLeDiff, reduceLT, hwT, selS, erT, subR, eq_false hc1, eq_false hc2, eq_false hc5, eq_false hc6, eq_false hc7, eq_false hc8, eq_false hc9, eq_true hc10], by simp only [gE, ↓gT, ↓reduceIte, reduceCtorEq, reduceAdd, reduceEqDiff, reduceLeDiff, reduceLT, hwT, selS, erT, scT, esT, eq_false hc1, eq_false hc2, eq_false hc5, eq_false hc6, eq_false hc7, eq_false hc8, eq_false hc9, eq_true hc10], by simp only [gE, ↓gT, ↓reduceIte, reduceCtorEq, reduceAdd, reduceEqDiff, reduceLeDiff, reduceLT, hwT, selS, erT, scT, esT, eq_false hc1, eq_false hc2, eq_false hc5, eq_false hc6, eq_false hc7, eq_false hc8, eq_false hc9, eq_true hc10]⟩ (ih_spec_l13Text_L0 (p1, p0, p0.S, 0) (.inr v77) h_s75 _ ?_ ?_)
                    rotate_left
                    · intro r' hr'; cases hr'
                    intro v hv env st sel hw
                    cases hv
                    simp only [gE, ↓gT, ↓reduceIte, reduceCtorEq, reduceAdd, reduceEqDiff, reduceLeDiff, reduceLT]
                    first | refine SemF.weak hw ?_ | refine SemL.weak hw ?_
                    refine SemF.seq rfl ?_
                    refine SemF.reg true rfl ?_
                    try simp only [gE, ↓gT, ↓reduceIte, reduceCtorEq, reduceAdd, reduceEqDiff, reduceLeDiff, reduceLT, eq_false hc1, eq_false hc2, eq_false hc5, eq_false hc6, eq_false hc7, eq_false hc8, eq_false hc9, eq_true hc10]; (repeat intro (_ : _ ≤ lim))
                    refine SemF.ret rfl ?_
                    try simp only [gE, ↓gT, ↓reduceIte, reduceCtorEq, reduceAdd, reduceEqDiff, reduceLeDiff, reduceLT, eq_false hc1, eq_false hc2, eq_false hc5, eq_false hc6, eq_false hc7, eq_false hc8, eq_false hc9, eq_true hc10]; (repeat intro (_ : _ ≤ lim))
                    obtain rfl := Option.some.inj h
                    simp only [gE, ↓gT, ↓reduceIte, reduceCtorEq, reduceAdd, reduceEqDiff, reduceLeDiff, reduceLT, RetP_def, eq_false hc1, eq_false hc2, eq_false hc5, eq_false hc6, eq_false hc7, eq_false hc8, eq_false hc9, eq_true hc10]
                · rw [if_neg hc10] at h
                  refine SemF.cond rfl ?_
                  simp only [gE, ↓gT, ↓reduceIte, reduceCtorEq, reduceAdd, reduceEqDiff, reduceLeDiff, reduceLT, eq_false hc1, eq_false hc2, eq_false hc5, eq_false hc6, eq_false hc7, eq_false hc8, eq_false hc9, eq_false hc10]
                  refine SemF.skip rfl ?_
                  simp only [gE, ↓gT, ↓reduceIte, reduceCtorEq, reduceAdd, reduceEqDiff, reduceLeDiff, reduceLT, eq_false hc1, eq_false hc2, eq_false hc5, eq_false hc6, eq_false hc7, eq_false hc8, eq_false hc9, eq_false hc10]
                  refine SemF.seq rfl ?_
                  refine SemF.reg true rfl ?_
                  try simp only [gE, ↓gT, ↓reduceIte, reduceCtorEq, reduceAdd, reduceEqDiff, reduceLeDiff, reduceLT, eq_false hc1, eq_false hc2, eq_false hc5, eq_false hc6, eq_false hc7, eq_false hc8, eq_false hc9, eq_false hc10]; (repeat intro (_ : _ ≤ lim))
                  refine SemF.ret rfl ?_
                  try simp only [gE, ↓gT, ↓reduceIte, reduceCtorEq, reduceAdd, reduceEqDiff, reduceLeDiff, reduceLT, eq_false hc1, eq_false hc2, eq_false hc5, eq_false hc6, eq_false hc7, eq_false hc8, eq_false hc9, eq_false hc10]; (repeat intro (_ : _ ≤ lim))
                  obtain rfl := Option.some.inj h
                  simp only [gE, ↓gT, ↓reduceIte, reduceCtorEq, reduceAdd, reduceEqDiff, reduceLeDiff, reduceLT, RetP_def, eq_false hc1, eq_false hc2, eq_false hc5, eq_false hc6, eq_false hc7, eq_false hc8, eq_false hc9, eq_false hc10]
end K
end W
