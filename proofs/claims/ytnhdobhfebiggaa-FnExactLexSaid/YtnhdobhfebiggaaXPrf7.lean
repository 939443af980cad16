import Derived.Test.YtnhdobhfebiggaaXPrf6
namespace W
set_option linter.unusedSimpArgs false
set_option linter.unusedVariables false
open Go HL S
open Nat (reduceAdd reduceEqDiff reduceLeDiff reduceSub reduceMul reduceLT)
set_option linter.unusedVariables false
set_option maxRecDepth 100000
set_option maxHeartbeats 4000000
namespace K
theorem spec_l1Place_L0 : ∀ (x : (ByteArray × Int × Int × Int × Int)) (out : (Int × Int)), M.spec_l1Place_L0 x = some out → ∀ Q : HExit → Env → St → Prop, (∀ env st sel, Weak 0 sel [(6, (.int .i64 out.1)), (7, (.int .i64 out.2))] [] env st → Q (.exit 0) env st) → SemL P H.spec_l1Place.ntmps 0 H.spec_l1Place_l6 [(0, (.str x.1)), (1, (.int .i64 x.2.1)), (6, (.int .i64 x.2.2.1)), (7, (.int .i64 x.2.2.2.1)), (8, (.int .i64 x.2.2.2.2))] [] Q := by
  refine M.spec_l1Place_L0.partial_correctness (motive := fun x out => ∀ Q : HExit → Env → St → Prop, (∀ env st sel, Weak 0 sel [(6, (.int .i64 out.1)), (7, (.int .i64 out.2))] [] env st → Q (.exit 0) env st) → SemL P H.spec_l1Place.ntmps 0 H.spec_l1Place_l6 [(0, (.str x.1)), (1, (.int .i64 x.2.1)), (6, (.int .i64 x.2.2.1)), (7, (.int .i64 x.2.2.2.1)), (8, (.int .i64 x.2.2.2.2))] [] Q) ?_
  intro f_spec_l1Place_L0 ih_spec_l1Place_L0 x out h
  obtain ⟨p0, p1, t6_L0, t7_L0, t8_L0⟩ := x
  try dsimp only at h
  intro Q hx
  refine SemL.round ?_
  try dsimp only at hx
  refine SemF.seq rfl ?_
  refine SemF.seq rfl ?_
  refine SemF.reg true rfl ?_
  try simp only [gE, ↓gT, ↓reduceIte, reduceCtorEq, reduceAdd, reduceEqDiff, reduceLeDiff, reduceLT]; (repeat intro (_ : _ ≤ lim))
  by_cases hc4 : t8_L0 < p1
  · rw [if_pos hc4] at h
    refine SemF.cond rfl ?_
    simp only [gE, ↓gT, ↓reduceIte, reduceCtorEq, reduceAdd, reduceEqDiff, reduceLeDiff, reduceLT, eq_true hc4]
    refine SemF.skip rfl ?_
    simp only [gE, ↓gT, ↓reduceIte, reduceCtorEq, reduceAdd, reduceEqDiff, reduceLeDiff, reduceLT, eq_true hc4]
    refine SemF.seq rfl ?_
    refine SemF.block rfl ?_
    refine SemF.seq rfl ?_
    refine SemF.reg true rfl ?_
    try simp only [gE, ↓gT, ↓reduceIte, reduceCtorEq, reduceAdd, reduceEqDiff, reduceLeDiff, reduceLT, eq_true hc4]; (repeat intro (_ : _ ≤ lim))
    refine SemF.seq rfl ?_
    refine SemF.reg true rfl ?_
    try simp only [gE, ↓gT, ↓reduceIte, reduceCtorEq, reduceAdd, reduceEqDiff, reduceLeDiff, reduceLT, eq_true hc4]; (repeat intro (_ : _ ≤ lim))
    obtain ⟨c5, h_c5, h⟩ := bs h
    obtain ⟨c_c5, m_c5, v_c5⟩ := bx_get h_c5
    try simp only [gE, ↓gT, ↓reduceIte, reduceCtorEq, reduceAdd, reduceEqDiff, reduceLeDiff, reduceLT, eq_true hc4, eq_true (bx_nn h_c5), m_c5, v_c5]; (repeat intro (_ : _ ≤ lim))
    by_cases hc6 : c5 = 10
    · rw [if_pos hc6] at h
      refine SemF.cond rfl ?_
      simp only [gE, ↓gT, ↓reduceIte, reduceCtorEq, reduceAdd, reduceEqDiff, reduceLeDiff, reduceLT, eq_true hc4, eq_true (bx_nn h_c5), m_c5, v_c5, eq_true hc6]
      refine SemF.seq rfl ?_
      refine SemF.reg true rfl ?_
      try simp only [gE, ↓gT, ↓reduceIte, reduceCtorEq, reduceAdd, reduceEqDiff, reduceLeDiff, reduceLT, eq_true hc4, eq_true (bx_nn h_c5), m_c5, v_c5, eq_true hc6]; (repeat intro (_ : _ ≤ lim))
      refine SemF.reg true rfl ?_
      try simp only [gE, ↓gT, ↓reduceIte, reduceCtorEq, reduceAdd, reduceEqDiff, reduceLeDiff, reduceLT, eq_true hc4, eq_true (bx_nn h_c5), m_c5, v_c5, eq_true hc6]; (repeat intro (_ : _ ≤ lim))
      refine SemF.reg true rfl ?_
      try simp only [gE, ↓gT, ↓reduceIte, reduceCtorEq, reduceAdd, reduceEqDiff, reduceLeDiff, reduceLT, eq_true hc4, eq_true (bx_nn h_c5), m_c5, v_c5, eq_true hc6]; (repeat intro (_ : _ ≤ lim))
      refine SemL.weak (sel := []) ⟨by simp only [gE, ↓gT, ↓reduceIte, reduceCtorEq, reduceAdd, reduceEqDiff, reduceLeDiff, reduceLT, hwT, selS, erT, eq_true hc4, eq_true (bx_nn h_c5), m_c5, v_c5, eq_true hc6], by decide, by decide, by simp only [gE, ↓gT, ↓reduceIte, reduceCtorEq, reduceAdd, reduceEqDiff, reduceLeDiff, reduceLT, hwT, selS, erT, subR, eq_true hc4, eq_true (bx_nn h_c5), m_c5, v_c5, eq_true hc6], by simp only [gE, ↓gT, ↓reduceIte, reduceCtorEq, reduceAdd, reduceEqDiff, reduceLeDiff, reduceLT, hwT, selS, erT, scT, esT, eq_true hc4, eq_true (bx_nn h_c5), m_c5, v_c5, eq_true hc6], by simp only [gE, ↓gT, ↓reduceIte, reduceCtorEq, reduceAdd, reduceEqDiff, reduceLeDiff, reduceLT, hwT, selS, erT, scT, esT, eq_true hc4, eq_true (bx_nn h_c5), m_c5, v_c5, eq_true hc6]⟩ (ih_spec_l1Place_L0 (p0, p1, (IntKind.i64.wrap (t6_L0 + 1)), 1, (IntKind.i64.wrap (t8_L0 + 1))) out h Q hx)
    · rw [if_neg hc6] at h
      refine SemF.cond rfl ?_
      simp only [gE, ↓gT, ↓reduceIte, reduceCtorEq, reduceAdd, reduceEqDiff, reduceLeDiff, reduceLT, eq_true hc4, eq_true (bx_nn h_c5), m_c5, v_c5, eq_false hc6]
      refine SemF.skip rfl ?_
      simp only [gE, ↓gT, ↓reduceIte, reduceCtorEq, reduceAdd, reduceEqDiff, reduceLeDiff, reduceLT, eq_true hc4, eq_true (bx_nn h_c5), m_c5, v_c5, eq_false hc6]
      refine SemF.reg true rfl ?_
      try simp only [gE, ↓gT, ↓reduceIte, reduceCtorEq, reduceAdd, reduceEqDiff, reduceLeDiff, reduceLT, eq_true hc4, eq_true (bx_nn h_c5), m_c5, v_c5, eq_false hc6]; (repeat intro (_ : _ ≤ lim))
      refine SemL.weak (sel := []) ⟨by simp only [gE, ↓gT, ↓reduceIte, reduceCtorEq, reduceAdd, reduceEqDiff, reduceLeDiff, reduceLT, hwT, selS, erT, eq_true hc4, eq_true (bx_nn h_c5), m_c5, v_c5, eq_false hc6], by decide, by decide, by simp only [gE, ↓gT, ↓reduceIte, reduceCtorEq, reduceAdd, reduceEqDiff, reduceLeDiff, reduceLT, hwT, selS, erT, subR, eq_true hc4, eq_true (bx_nn h_c5), m_c5, v_c5, eq_false hc6], by simp only [gE, ↓gT, ↓reduceIte, reduceCtorEq, reduceAdd, reduceEqDiff, reduceLeDiff, reduceLT, hwT, selS, erT, scT, esT, eq_true hc4, eq_true (bx_nn h_c5), m_c5, v_c5, eq_false hc6], by simp only [gE, ↓gT, ↓reduceIte, reduceCtorEq, reduceAdd, reduceEqDiff, reduceLeDiff, reduceLT, hwT, selS, erT, scT, esT, eq_true hc4, eq_true (bx_nn h_c5), m_c5, v_c5, eq_false hc6]⟩ (ih_spec_l1Place_L0 (p0, p1, t6_L0, (IntKind.i64.wrap (t7_L0 + 1)), (IntKind.i64.wrap (t8_L0 + 1))) out h Q hx)
  · rw [if_neg hc4] at h
    refine SemF.cond rfl ?_
    simp only [gE, ↓gT, ↓reduceIte, reduceCtorEq, reduceAdd, reduceEqDiff, reduceLeDiff, reduceLT, eq_false hc4]
    refine SemF.exit rfl ?_
    simp only [gE, ↓gT, ↓reduceIte, reduceCtorEq, reduceAdd, reduceEqDiff, reduceLeDiff, reduceLT, eq_false hc4]
    obtain rfl := Option.some.inj h
    refine hx _ _ [] ⟨by simp only [gE, ↓gT, ↓reduceIte, reduceCtorEq, reduceAdd, reduceEqDiff, reduceLeDiff, reduceLT, hwT, selS, erT, eq_false hc4], by decide, by decide, by simp only [gE, ↓gT, ↓reduceIte, reduceCtorEq, reduceAdd, reduceEqDiff, reduceLeDiff, reduceLT, hwT, selS, erT, subR, eq_false hc4], by simp only [gE, ↓gT, ↓reduceIte, reduceCtorEq, reduceAdd, reduceEqDiff, reduceLeDiff, reduceLT, hwT, selS, erT, scT, esT, eq_false hc4], by simp only [gE, ↓gT, ↓reduceIte, reduceCtorEq, reduceAdd, reduceEqDiff, reduceLeDiff, reduceLT, hwT, selS, erT, scT, esT, eq_false hc4]⟩
theorem spec_l1Place : ∀ (x : (ByteArray × Int)) (r : (Int × Int)), M.spec_l1Place x = some r → HCp P F.spec_l1Place [(.str x.1), (.int .i64 x.2)] (HV.tup [(HV.int .i64 r.1), (HV.int .i64 r.2)]) := by
  intro x r h
  obtain ⟨p0, p1⟩ := x
  unfold M.spec_l1Place at h
  try dsimp only at h
  refine HCp.mkF S.spec_l1Place (by simp [H.spec_l1Place]) (by simp only [scT, esT, and_self, true_and, and_true]) ?_
  simp only [gE, ↓gT, ↓reduceIte, reduceCtorEq, reduceAdd, reduceEqDiff, reduceLeDiff, reduceLT, H.spec_l1Place]
  refine SemF.seq rfl ?_
  refine SemF.reg true rfl ?_
  try simp only [gE, ↓gT, ↓reduceIte, reduceCtorEq, reduceAdd, reduceEqDiff, reduceLeDiff, reduceLT]; (repeat intro (_ : _ ≤ lim))
  refine SemF.seq rfl ?_
  refine SemF.reg true rfl ?_
  try simp only [gE, ↓gT, ↓reduceIte, reduceCtorEq, reduceAdd, reduceEqDiff, reduceLeDiff, reduceLT]; (repeat intro (_ : _ ≤ lim))
  refine SemF.seq rfl ?_
  refine SemF.reg true rfl ?_
  try simp only [gE, ↓gT, ↓reduceIte, reduceCtorEq, reduceAdd, reduceEqDiff, reduceLeDiff, reduceLT]; (repeat intro (_ : _ ≤ lim))
  refine SemF.seq rfl ?_
  refine SemF.seq rfl ?_
  refine SemF.reg true rfl ?_
  try simp only [gE, ↓gT, ↓reduceIte, reduceCtorEq, reduceAdd, reduceEqDiff, reduceLeDiff, reduceLT]; (repeat intro (_ : _ ≤ lim))
  refine SemF.block rfl ?_
  obtain ⟨s7, h_s7, h⟩ := bs h
  refine SemF.loop rfl ?_
  refine SemL.weak (sel := []) ⟨by simp only [gE, ↓gT, ↓reduceIte, reduceCtorEq, reduceAdd, reduceEqDiff, reduceLeDiff, reduceLT, hwT, selS, erT], by decide, by decide, by simp only [gE, ↓gT, ↓reduceIte, reduceCtorEq, reduceAdd, reduceEqDiff, reduceLeDiff, reduceLT, hwT, selS, erT, subR], by simp only [gE, ↓gT, ↓reduceIte, reduceCtorEq, reduceAdd, reduceEqDiff, reduceLeDiff, reduceLT, hwT, selS, erT, scT, esT], by simp only [gE, ↓gT, ↓reduceIte, reduceCtorEq, reduceAdd, reduceEqDiff, reduceLeDiff, reduceLT, hwT, selS, erT, scT, esT]⟩ (K.spec_l1Place_L0 (p0, p1, 1, 1, 0) s7 h_s7 _ ?_)
  intro env st sel hw
  simp only [gE, ↓gT, ↓reduceIte, reduceCtorEq, reduceAdd, reduceEqDiff, reduceLeDiff, reduceLT]
  first | refine SemF.weak hw ?_ | refine SemL.weak hw ?_
  refine SemF.seq rfl ?_
  refine SemF.reg true rfl ?_
  try simp only [gE, ↓gT, ↓reduceIte, reduceCtorEq, reduceAdd, reduceEqDiff, reduceLeDiff, reduceLT]; (repeat intro (_ : _ ≤ lim))
  refine SemF.ret rfl ?_
  try simp only [gE, ↓gT, ↓reduceIte, reduceCtorEq, reduceAdd, reduceEqDiff, reduceLeDiff, reduceLT]; (repeat intro (_ : _ ≤ lim))
  obtain rfl := Option.some.inj h
  simp only [gE, ↓gT, ↓reduceIte, reduceCtorEq, reduceAdd, reduceEqDiff, reduceLeDiff, reduceLT, RetP_def]
theorem spec_l1Skip_L1 : ∀ (x : (ByteArray × Int)) (out : Int), M.spec_l1Skip_L1 x = some out → ∀ Q : HExit → Env → St → Prop, (∀ env st sel, Weak 0 sel [(0, (.str x.1)), (1, (.int .i64 out))] [] env st → Q (.exit 2) env st) → SemL P H.spec_l1Skip.ntmps 0 H.spec_l1Skip_l11 [(0, (.str x.1)), (1, (.int .i64 x.2))] [] Q := by
  refine M.spec_l1Skip_L1.partial_correctness (motive := fun x out => ∀ Q : HExit → Env → St → Prop, (∀ env st sel, Weak 0 sel [(0, (.str x.1)), (1, (.int .i64 out))] [] env st → Q (.exit 2) env st) → SemL P H.spec_l1Skip.ntmps 0 H.spec_l1Skip_l11 [(0, (.str x.1)), (1, (.int .i64 x.2))] [] Q) ?_
  intro f_spec_l1Skip_L1 ih_spec_l1Skip_L1 x out h
  obtain ⟨p0, t1_L1⟩ := x
  try dsimp only at h
  intro Q hx
  refine SemL.round ?_
  try dsimp only at hx
  refine SemF.seq rfl ?_
  refine SemF.seq rfl ?_
  refine SemF.reg true rfl ?_
  try simp only [gE, ↓gT, ↓reduceIte, reduceCtorEq, reduceAdd, reduceEqDiff, reduceLeDiff, reduceLT]; (repeat intro (_ : _ ≤ lim))
  (repeat intro (_ : _ ≤ lim))
  by_cases hc31 : t1_L1 < ((p0.size : Nat) : Int)
  · rw [if_pos hc31] at h
    try simp only [gE, ↓gT, ↓reduceIte, reduceCtorEq, reduceAdd, reduceEqDiff, reduceLeDiff, reduceLT, eq_true hc31]; (repeat intro (_ : _ ≤ lim))
    obtain ⟨c32, h_c32, h⟩ := bs h
    obtain ⟨c_c32, m_c32, v_c32⟩ := bx_get h_c32
    try simp only [gE, ↓gT, ↓reduceIte, reduceCtorEq, reduceAdd, reduceEqDiff, reduceLeDiff, reduceLT, eq_true hc31, eq_true (bx_nn h_c32), m_c32, v_c32]; (repeat intro (_ : _ ≤ lim))
    by_cases hc33 : c32 = 10
    · rw [if_pos hc33] at h
      refine SemF.cond rfl ?_
      simp only [gE, ↓gT, ↓reduceIte, reduceCtorEq, reduceAdd, reduceEqDiff, reduceLeDiff, reduceLT, eq_true hc31, eq_true (bx_nn h_c32), m_c32, v_c32, eq_true hc33]
      refine SemF.exit rfl ?_
      simp only [gE, ↓gT, ↓reduceIte, reduceCtorEq, reduceAdd, reduceEqDiff, reduceLeDiff, reduceLT, eq_true hc31, eq_true (bx_nn h_c32), m_c32, v_c32, eq_true hc33]
      obtain rfl := Option.some.inj h
      refine hx _ _ [] ⟨by simp only [gE, ↓gT, ↓reduceIte, reduceCtorEq, reduceAdd, reduceEqDiff, reduceLeDiff, reduceLT, hwT, selS, erT, eq_true hc31, eq_true (bx_nn h_c32), m_c32, v_c32, eq_true hc33], by decide, by decide, by simp only [gE, ↓gT, ↓reduceIte, reduceCtorEq, reduceAdd, reduceEqDiff, reduceLeDiff, reduceLT, hwT, selS, erT, subR, eq_true hc31, eq_true (bx_nn h_c32), m_c32, v_c32, eq_true hc33], by simp only [gE, ↓gT, ↓reduceIte, reduceCtorEq, reduceAdd, reduceEqDiff, reduceLeDiff, reduceLT, hwT, selS, erT, scT, esT, eq_true hc31, eq_true (bx_nn h_c32), m_c32, v_c32, eq_true hc33], by simp only [gE, ↓gT, ↓reduceIte, reduceCtorEq, reduceAdd, reduceEqDiff, reduceLeDiff, reduceLT, hwT, selS, erT, scT, esT, eq_true hc31, eq_true (bx_nn h_c32), m_c32, v_c32, eq_true hc33]⟩
    · rw [if_neg hc33] at h
      refine SemF.cond rfl ?_
      simp only [gE, ↓gT, ↓reduceIte, reduceCtorEq, reduceAdd, reduceEqDiff, reduceLeDiff, reduceLT, eq_true hc31, eq_true (bx_nn h_c32), m_c32, v_c32, eq_false hc33]
      refine SemF.skip rfl ?_
      simp only [gE, ↓gT, ↓reduceIte, reduceCtorEq, reduceAdd, reduceEqDiff, reduceLeDiff, reduceLT, eq_true hc31, eq_true (bx_nn h_c32), m_c32, v_c32, eq_false hc33]
      refine SemF.block rfl ?_
      refine SemF.reg true rfl ?_
      try simp only [gE, ↓gT, ↓reduceIte, reduceCtorEq, reduceAdd, reduceEqDiff, reduceLeDiff, reduceLT, eq_true hc31, eq_true (bx_nn h_c32), m_c32, v_c32, eq_false hc33]; (repeat intro (_ : _ ≤ lim))
      refine SemL.weak (sel := []) ⟨by simp only [gE, ↓gT, ↓reduceIte, reduceCtorEq, reduceAdd, reduceEqDiff, reduceLeDiff, reduceLT, hwT, selS, erT, eq_true hc31, eq_true (bx_nn h_c32), m_c32, v_c32, eq_false hc33], by decide, by decide, by simp only [gE, ↓gT, ↓reduceIte, reduceCtorEq, reduceAdd, reduceEqDiff, reduceLeDiff, reduceLT, hwT, selS, erT, subR, eq_true hc31, eq_true (bx_nn h_c32), m_c32, v_c32, eq_false hc33], by simp only [gE, ↓gT, ↓reduceIte, reduceCtorEq, reduceAdd, reduceEqDiff, reduceLeDiff, reduceLT, hwT, selS, erT, scT, esT, eq_true hc31, eq_true (bx_nn h_c32), m_c32, v_c32, eq_false hc33], by simp only [gE, ↓gT, ↓reduceIte, reduceCtorEq, reduceAdd, reduceEqDiff, reduceLeDiff, reduceLT, hwT, selS, erT, scT, esT, eq_true hc31, eq_true (bx_nn h_c32), m_c32, v_c32, eq_false hc33]⟩ (ih_spec_l1Skip_L1 (p0, (IntKind.i64.wrap (t1_L1 + 1))) out h Q hx)
  · rw [if_neg hc31] at h
    try simp only [gE, ↓gT, ↓reduceIte, reduceCtorEq, reduceAdd, reduceEqDiff, reduceLeDiff, reduceLT, eq_false hc31]; (repeat intro (_ : _ ≤ lim))
    refine SemF.cond rfl ?_
    simp only [gE, ↓gT, ↓reduceIte, reduceCtorEq, reduceAdd, reduceEqDiff, reduceLeDiff, reduceLT, eq_false hc31]
    refine SemF.exit rfl ?_
    simp only [gE, ↓gT, ↓reduceIte, reduceCtorEq, reduceAdd, reduceEqDiff, reduceLeDiff, reduceLT, eq_false hc31]
    obtain rfl := Option.some.inj h
    refine hx _ _ [] ⟨by simp only [gE, ↓gT, ↓reduceIte, reduceCtorEq, reduceAdd, reduceEqDiff, reduceLeDiff, reduceLT, hwT, selS, erT, eq_false hc31], by decide, by decide, by simp only [gE, ↓gT, ↓reduceIte, reduceCtorEq, reduceAdd, reduceEqDiff, reduceLeDiff, reduceLT, hwT, selS, erT, subR, eq_false hc31], by simp only [gE, ↓gT, ↓reduceIte, reduceCtorEq, reduceAdd, reduceEqDiff, reduceLeDiff, reduceLT, hwT, selS, erT, scT, esT, eq_false hc31], by simp only [gE, ↓gT, ↓reduceIte, reduceCtorEq, reduceAdd, reduceEqDiff, reduceLeDiff, reduceLT, hwT, selS, erT, scT, esT, eq_false hc31]⟩
theorem spec_l1Skip_L0 : ∀ (x : (ByteArray × Int)) (out : (Sum Int Int)), M.spec_l1Skip_L0 x = some out → ∀ Q : HExit → Env → St → Prop, (∀ v, out = .inr v → ∀ env st sel, Weak 0 sel [(1, (.int .i64 v))] [] env st → Q (.exit 0) env st) → (∀ r, out = .inl r → ∀ env st, RetP [(4, none)] (HV.int .i64 r) env st → Q .ret env st) → SemL P H.spec_l1Skip.ntmps 0 H.spec_l1Skip_l3 [(0, (.str x.1)), (1, (.int .i64 x.2))] [] Q := by
  refine M.spec_l1Skip_L0.partial_correctness (motive := fun x out => ∀ Q : HExit → Env → St → Prop, (∀ v, out = .inr v → ∀ env st sel, Weak 0 sel [(1, (.int .i64 v))] [] env st → Q (.exit 0) env st) → (∀ r, out = .inl r → ∀ env st, RetP [(4, none)] (HV.int .i64 r) env st → Q .ret env st) → SemL P H.spec_l1Skip.ntmps 0 H.spec_l1Skip_l3 [(0, (.str x.1)), (1, (.int .i64 x.2))] [] Q) ?_
  intro f_spec_l1Skip_L0 ih_spec_l1Skip_L0 x out h
  obtain ⟨p0, t1_L0⟩ := x
  try dsimp only at h
  intro Q hx hr
  refine SemL.round ?_
  try dsimp only at hx
  refine SemF.seq rfl ?_
  refine SemF.seq rfl ?_
  refine SemF.reg true rfl ?_
  try simp only [gE, ↓gT, ↓reduceIte, reduceCtorEq, reduceAdd, reduceEqDiff, reduceLeDiff, reduceLT]; (repeat intro (_ : _ ≤ lim))
  (repeat intro (_ : _ ≤ lim))
  by_cases hc21 : t1_L0 < ((p0.size : Nat) : Int)
  · rw [if_pos hc21] at h
    refine SemF.cond rfl ?_
    simp only [gE, ↓gT, ↓reduceIte, reduceCtorEq, reduceAdd, reduceEqDiff, reduceLeDiff, reduceLT, eq_true hc21]
    refine SemF.skip rfl ?_
    simp only [gE, ↓gT, ↓reduceIte, reduceCtorEq, reduceAdd, reduceEqDiff, reduceLeDiff, reduceLT, eq_true hc21]
    refine SemF.block rfl ?_
    refine SemF.seq rfl ?_
    refine SemF.seq rfl ?_
    refine SemF.reg true rfl ?_
    try simp only [gE, ↓gT, ↓reduceIte, reduceCtorEq, reduceAdd, reduceEqDiff, reduceLeDiff, reduceLT, eq_true hc21]; (repeat intro (_ : _ ≤ lim))
    (repeat intro (_ : _ ≤ lim))
    by_cases hc22 : (IntKind.i64.wrap (t1_L0 + 2)) ≤ ((p0.size : Nat) : Int)
    · rw [if_pos hc22] at h
      try simp only [gE, ↓gT, ↓reduceIte, reduceCtorEq, reduceAdd, reduceEqDiff, reduceLeDiff, reduceLT, eq_true hc21, eq_true hc22]; (repeat intro (_ : _ ≤ lim))
      obtain ⟨u24, h_u24, h⟩ := bs h
      have hg23 := gd_some h_u24
      try simp only [gE, ↓gT, ↓reduceIte, reduceCtorEq, reduceAdd, reduceEqDiff, reduceLeDiff, reduceLT, eq_true hc21, eq_true hc22, eq_true hg23]; (repeat intro (_ : _ ≤ lim))
      obtain ⟨u26, h_u26, h⟩ := bs h
      have hg25 := gd_some h_u26
      try simp only [gE, ↓gT, ↓reduceIte, reduceCtorEq, reduceAdd, reduceEqDiff, reduceLeDiff, reduceLT, eq_true hc21, eq_true hc22, eq_true hg23, eq_true hg25]; (repeat intro (_ : _ ≤ lim))
      by_cases hc27 : (p0.extract t1_L0.toNat (IntKind.i64.wrap (t1_L0 + 2)).toNat) = (⟨⟨[45, 45]⟩⟩ : ByteArray)
      · rw [if_pos hc27] at h
        refine SemF.cond rfl ?_
        simp only [gE, ↓gT, ↓reduceIte, reduceCtorEq, reduceAdd, reduceEqDiff, reduceLeDiff, reduceLT, eq_true hc21, eq_true hc22, eq_true hg23, eq_true hg25, eq_true hc27]
        refine SemF.seq rfl ?_
        refine SemF.block rfl ?_
        obtain ⟨s34, h_s34, h⟩ := bs h
        refine SemF.loop rfl ?_
        refine SemL.weak (sel := []) ⟨by simp only [gE, ↓gT, ↓reduceIte, reduceCtorEq, reduceAdd, reduceEqDiff, reduceLeDiff, reduceLT, hwT, selS, erT, eq_true hc21, eq_true hc22, eq_true hg23, eq_true hg25, eq_true hc27], by decide, by decide, by simp only [gE, ↓gT, ↓reduceIte, reduceCtorEq, reduceAdd, reduceEqDiff, reduceLeDiff, reduceLT, hwT, selS, erT, subR, eq_true hc21, eq_true hc22, eq_true hg23, eq_true hg25, eq_true hc27], by simp only [gE, ↓gT, ↓reduceIte, reduceCtorEq, reduceAdd, reduceEqDiff, reduceLeDiff, reduceLT, hwT, selS, erT, scT, esT, eq_true hc21, eq_true hc22, eq_true hg23, eq_true hg25, eq_true hc27], by simp only [gE, ↓gT, ↓reduceIte, reduceCtorEq, reduceAdd, reduceEqDiff, reduceLeDiff, reduceLT, hwT, selS, erT, scT, esT, eq_true hc21, eq_true hc22, eq_true hg23, eq_true hg25, eq_true hc27]⟩ (K.spec_l1Skip_L1 (p0, t1_L0) s34 h_s34 _ ?_)
        intro env st sel hw
        simp only [gE, ↓gT, ↓reduceIte, reduceCtorEq, reduceAdd, reduceEqDiff, reduceLeDiff, reduceLT]
        first | refine SemF.weak hw ?_ | refine SemL.weak hw ?_
        refine SemF.exit rfl ?_
        simp only [gE, ↓gT, ↓reduceIte, reduceCtorEq, reduceAdd, reduceEqDiff, reduceLeDiff, reduceLT, eq_true hc21, eq_true hc22, eq_true hg23, eq_true hg25, eq_true hc27]
        refine SemL.weak (sel := []) ⟨by simp only [gE, ↓gT, ↓reduceIte, reduceCtorEq, reduceAdd, reduceEqDiff, reduceLeDiff, reduceLT, hwT, selS, erT, eq_true hc21, eq_true hc22, eq_true hg23, eq_true hg25, eq_true hc27], by decide, by decide, by simp only [gE, ↓gT, ↓reduceIte, reduceCtorEq, reduceAdd, reduceEqDiff, reduceLeDiff, reduceLT, hwT, selS, erT, subR, eq_true hc21, eq_true hc22, eq_true hg23, eq_true hg25, eq_true hc27], by simp only [gE, ↓gT, ↓reduceIte, reduceCtorEq, reduceAdd, reduceEqDiff, reduceLeDiff, reduceLT, hwT, selS, erT, scT, esT, eq_true hc21, eq_true hc22, eq_true hg23, eq_true hg25, eq_true hc27], by simp only [gE, ↓gT, ↓reduceIte, reduceCtorEq, reduceAdd, reduceEqDiff, reduceLeDiff, reduceLT, hwT, selS, erT, scT, esT, eq_true hc21, eq_true hc22, eq_true hg23, eq_true hg25, eq_true hc27]⟩ (ih_spec_l1Skip_L0 (p0, s34) out h Q hx hr)
      · rw [if_neg hc27] at h
        refine SemF.cond rfl ?_
        simp only [gE, ↓gT, ↓reduceIte, reduceCtorEq, reduceAdd, reduceEqDiff, reduceLeDiff, reduceLT, eq_true hc21, eq_true hc22, eq_true hg23, eq_true hg25, eq_false hc27]
        refine SemF.skip rfl ?_
        simp only [gE, ↓gT, ↓reduceIte, reduceCtorEq, reduceAdd, reduceEqDiff, reduceLeDiff, reduceLT, eq_true hc21, eq_true hc22, eq_true hg23, eq_true hg25, eq_false hc27]
        refine SemF.seq rfl ?_
        refine SemF.seq rfl ?_
        refine SemF.reg true rfl ?_
        try simp only [gE, ↓gT, ↓reduceIte, reduceCtorEq, reduceAdd, reduceEqDiff, reduceLeDiff, reduceLT, eq_true hc21, eq_true hc22, eq_true hg23, eq_true hg25, eq_false hc27]; (repeat intro (_ : _ ≤ lim))
        obtain ⟨c35, h_c35, h⟩ := bs h
        obtain ⟨c_c35, m_c35, v_c35⟩ := bx_get h_c35
        try simp only [gE, ↓gT, ↓reduceIte, reduceCtorEq, reduceAdd, reduceEqDiff, reduceLeDiff, reduceLT, eq_true hc21, eq_true hc22, eq_true hg23, eq_true hg25, eq_false hc27, eq_true (bx_nn h_c35), m_c35, v_c35]; (repeat intro (_ : _ ≤ lim))
        by_cases hc36 : c35 = 32
        · rw [if_pos hc36] at h
          try simp only [gE, ↓gT, ↓reduceIte, reduceCtorEq, reduceAdd, reduceEqDiff, reduceLeDiff, reduceLT, eq_true hc21, eq_true hc22, eq_true hg23, eq_true hg25, eq_false hc27, eq_true (bx_nn h_c35), m_c35, v_c35, eq_true hc36]; (repeat intro (_ : _ ≤ lim))
          refine SemF.cond rfl ?_
          simp only [gE, ↓gT, ↓reduceIte, reduceCtorEq, reduceAdd, reduceEqDiff, reduceLeDiff, reduceLT, eq_true hc21, eq_true hc22, eq_true hg23, eq_true hg25, eq_false hc27, eq_true (bx_nn h_c35), m_c35, v_c35, eq_true hc36]
          refine SemF.skip rfl ?_
          simp only [gE, ↓gT, ↓reduceIte, reduceCtorEq, reduceAdd, reduceEqDiff, reduceLeDiff, reduceLT, eq_true hc21, eq_true hc22, eq_true hg23, eq_true hg25, eq_false hc27, eq_true (bx_nn h_c35), m_c35, v_c35, eq_true hc36]
          refine SemF.reg true rfl ?_
          try simp only [gE, ↓gT, ↓reduceIte, reduceCtorEq, reduceAdd, reduceEqDiff, reduceLeDiff, reduceLT, eq_true hc21, eq_true hc22, eq_true hg23, eq_true hg25, eq_false hc27, eq_true (bx_nn h_c35), m_c35, v_c35, eq_true hc36]; (repeat intro (_ : _ ≤ lim))
          refine SemL.weak (sel := []) ⟨by simp only [gE, ↓gT, ↓reduceIte, reduceCtorEq, reduceAdd, reduceEqDiff, reduceLeDiff, reduceLT, hwT, selS, erT, eq_true hc21, eq_true hc22, eq_true hg23, eq_true hg25, eq_false hc27, eq_true (bx_nn h_c35), m_c35, v_c35, eq_true hc36], by decide, by decide, by simp only [gE, ↓gT, ↓reduceIte, reduceCtorEq, reduceAdd, reduceEqDiff, reduceLeDiff, reduceLT, hwT, selS, erT, subR, eq_true hc21, eq_true hc22, eq_true hg23, eq_true hg25, eq_false hc27, eq_true (bx_nn h_c35), m_c35, v_c35, eq_true hc36], by simp only [gE, ↓gT, ↓reduceIte, reduceCtorEq, reduceAdd, reduceEqDiff, reduceLeDiff, reduceLT, hwT, selS, erT, scT, esT, eq_true hc21, eq_true hc22, eq_true hg23, eq_true hg25, eq_false hc27, eq_true (bx_nn h_c35), m_c35, v_c35, eq_true hc36], by simp only [gE, ↓gT, ↓reduceIte, reduceCtorEq, reduceAdd, reduceEqDiff, reduceLeDiff, reduceLT, hwT, selS, erT, scT, esT, eq_true hc21, eq_true hc22, eq_true hg23, eq_true hg25, eq_false hc27, eq_true (bx_nn h_c35), m_c35, v_c35, eq_true hc36]⟩ (ih_spec_l1Skip_L0 (p0, (IntKind.i64.wrap (t1_L0 + 1))) out h Q hx hr)
        · rw [if_neg hc36] at h
          try simp only [gE, ↓gT, ↓reduceIte, reduceCtorEq, reduceAdd, reduceEqDiff, reduceLeDiff, reduceLT, eq_true hc21, eq_true hc22, eq_true hg23, eq_true hg25, eq_false hc27, eq_true (bx_nn h_c35), m_c35, v_c35, eq_false hc36]; (repeat intro (_ : _ ≤ lim))
          by_cases hc37 : c35 = 10
          · rw [if_pos hc37] at h
            refine SemF.cond rfl ?_
            simp only [gE, ↓gT, ↓reduceIte, reduceCtorEq, reduceAdd, reduceEqDiff, reduceLeDiff, reduceLT, eq_true hc21, eq_true hc22, eq_true hg23, eq_true hg25, eq_false hc27, eq_true (bx_nn h_c35), m_c35, v_c35, eq_false hc36, eq_true hc37]
            refine SemF.skip rfl ?_
            simp only [gE, ↓gT, ↓reduceIte, reduceCtorEq, reduceAdd, reduceEqDiff, reduceLeDiff, reduceLT, eq_true hc21, eq_true hc22, eq_true hg23, eq_true hg25, eq_false hc27, eq_true (bx_nn h_c35), m_c35, v_c35, eq_false hc36, eq_true hc37]
            refine SemF.reg true rfl ?_
            try simp only [gE, ↓gT, ↓reduceIte, reduceCtorEq, reduceAdd, reduceEqDiff, reduceLeDiff, reduceLT, eq_true hc21, eq_true hc22, eq_true hg23, eq_true hg25, eq_false hc27, eq_true (bx_nn h_c35), m_c35, v_c35, eq_false hc36, eq_true hc37]; (repeat intro (_ : _ ≤ lim))
            refine SemL.weak (sel := []) ⟨by simp only [gE, ↓gT, ↓reduceIte, reduceCtorEq, reduceAdd, reduceEqDiff, reduceLeDiff, reduceLT, hwT, selS, erT, eq_true hc21, eq_true hc22, eq_true hg23, eq_true hg25, eq_false hc27, eq_true (bx_nn h_c35), m_c35, v_c35, eq_false hc36, eq_true hc37], by decide, by decide, by simp only [gE, ↓gT, ↓reduceIte, reduceCtorEq, reduceAdd, reduceEqDiff, reduceLeDiff, reduceLT, hwT, selS, erT, subR, eq_true hc21, eq_true hc22, eq_true hg23, eq_true hg25, eq_false hc27, eq_true (bx_nn h_c35), m_c35, v_c35, eq_false hc36, eq_true hc37], by simp only [gE, ↓gT, ↓reduceIte, reduceCtorEq, reduceAdd, reduceEqDiff, reduceLeDiff, reduceLT, hwT, selS, erT, scT, esT, eq_true hc21, eq_true hc22, eq_true hg23, eq_true hg25, eq_false hc27, eq_true (bx_nn h_c35), m_c35, v_c35, eq_false hc36, eq_true hc37], by simp only [gE, ↓gT, ↓reduceIte, reduceCtorEq, reduceAdd, reduceEqDiff, reduceLeDiff, reduceLT, hwT, selS, erT, scT, esT, eq_true hc21, eq_true hc22, eq_true hg23, eq_true hg25, eq_false hc27, eq_true (bx_nn h_c35), m_c35, v_c35, eq_false hc36, eq_true hc37]⟩ (ih_spec_l1Skip_L0 (p0, (IntKind.i64.wrap (t1_L0 + 1))) out h Q hx hr)
          · rw [if_neg hc37] at h
            refine SemF.cond rfl ?_
            simp only [gE, ↓gT, ↓reduceIte, reduceCtorEq, reduceAdd, reduceEqDiff, reduceLeDiff, reduceLT, eq_true hc21, eq_true hc22, eq_true hg23, eq_true hg25, eq_false hc27, eq_true (bx_nn h_c35), m_c35, v_c35, eq_false hc36, eq_false hc37]
            refine SemF.seq rfl ?_
            refine SemF.reg true rfl ?_
            try simp only [gE, ↓gT, ↓reduceIte, reduceCtorEq, reduceAdd, reduceEqDiff, reduceLeDiff, reduceLT, eq_true hc21, eq_true hc22, eq_true hg23, eq_true hg25, eq_false hc27, eq_true (bx_nn h_c35), m_c35, v_c35, eq_false hc36, eq_false hc37]; (repeat intro (_ : _ ≤ lim))
            refine SemF.ret rfl ?_
            try simp only [gE, ↓gT, ↓reduceIte, reduceCtorEq, reduceAdd, reduceEqDiff, reduceLeDiff, reduceLT, eq_true hc21, eq_true hc22, eq_true hg23, eq_true hg25, eq_false hc27, eq_true (bx_nn h_c35), m_c35, v_c35, eq_false hc36, eq_false hc37]; (repeat intro (_ : _ ≤ lim))
            obtain rfl := Option.some.inj h
            refine hr _ rfl _ _ ?_
            simp only [gE, ↓gT, ↓reduceIte, reduceCtorEq, reduceAdd, reduceEqDiff, reduceLeDiff, reduceLT, RetP_def, eq_true hc21, eq_true hc22, eq_true hg23, eq_true hg25, eq_false hc27, eq_true (bx_nn h_c35), m_c35, v_c35, eq_false hc36, eq_false hc37]
    · rw [if_neg hc22] at h
      try simp only [gE, ↓gT, ↓reduceIte, reduceCtorEq, reduceAdd, reduceEqDiff, reduceLeDiff, reduceLT, eq_true hc21, eq_false hc22]; (repeat intro (_ : _ ≤ lim))
      refine SemF.cond rfl ?_
      simp only [gE, ↓gT, ↓reduceIte, reduceCtorEq, reduceAdd, reduceEqDiff, reduceLeDiff, reduceLT, eq_true hc21, eq_false hc22]
      refine SemF.skip rfl ?_
      simp only [gE, ↓gT, ↓reduceIte, reduceCtorEq, reduceAdd, reduceEqDiff, reduceLeDiff, reduceLT, eq_true hc21, eq_false hc22]
      refine SemF.seq rfl ?_
      refine SemF.seq rfl ?_
      refine SemF.reg true rfl ?_
      try simp only [gE, ↓gT, ↓reduceIte, reduceCtorEq, reduceAdd, reduceEqDiff, reduceLeDiff, reduceLT, eq_true hc21, eq_false hc22]; (repeat intro (_ : _ ≤ lim))
      obtain ⟨c38, h_c38, h⟩ := bs h
      obtain ⟨c_c38, m_c38, v_c38⟩ := bx_get h_c38
      try simp only [gE, ↓gT, ↓reduceIte, reduceCtorEq, reduceAdd, reduceEqDiff, reduceLeDiff, reduceLT, eq_true hc21, eq_false hc22, eq_true (bx_nn h_c38), m_c38, v_c38]; (repeat intro (_ : _ ≤ lim))
      by_cases hc39 : c38 = 32
      · rw [if_pos hc39] at h
        try simp only [gE, ↓gT, ↓reduceIte, reduceCtorEq, reduceAdd, reduceEqDiff, reduceLeDiff, reduceLT, eq_true hc21, eq_false hc22, eq_true (bx_nn h_c38), m_c38, v_c38, eq_true hc39]; (repeat intro (_ : _ ≤ lim))
        refine SemF.cond rfl ?_
        simp only [gE, ↓gT, ↓reduceIte, reduceCtorEq, reduceAdd, reduceEqDiff, reduceLeDiff, reduceLT, eq_true hc21, eq_false hc22, eq_true (bx_nn h_c38), m_c38, v_c38, eq_true hc39]
        refine SemF.skip rfl ?_
        simp only [gE, ↓gT, ↓reduceIte, reduceCtorEq, reduceAdd, reduceEqDiff, reduceLeDiff, reduceLT, eq_true hc21, eq_false hc22, eq_true (bx_nn h_c38), m_c38, v_c38, eq_true hc39]
        refine SemF.reg true rfl ?_
        try simp only [gE, ↓gT, ↓reduceIte, reduceCtorEq, reduceAdd, reduceEqDiff, reduceLeDiff, reduceLT, eq_true hc21, eq_false hc22, eq_true (bx_nn h_c38), m_c38, v_c38, eq_true hc39]; (repeat intro (_ : _ ≤ lim))
        refine SemL.weak (sel := []) ⟨by simp only [gE, ↓gT, ↓reduceIte, reduceCtorEq, reduceAdd, reduceEqDiff, reduceLeDiff, reduceLT, hwT, selS, erT, eq_true hc21, eq_false hc22, eq_true (bx_nn h_c38), m_c38, v_c38, eq_true hc39], by decide, by decide, by simp only [gE, ↓gT, ↓reduceIte, reduceCtorEq, reduceAdd, reduceEqDiff, reduceLeDiff, reduceLT, hwT, selS, erT, subR, eq_true hc21, eq_false hc22, eq_true (bx_nn h_c38), m_c38, v_c38, eq_true hc39], by simp only [gE, ↓gT, ↓reduceIte, reduceCtorEq, reduceAdd, reduceEqDiff, reduceLeDiff, reduceLT, hwT, selS, erT, scT, esT, eq_true hc21, eq_false hc22, eq_true (bx_nn h_c38), m_c38, v_c38, eq_true hc39], by simp only [gE, ↓gT, ↓reduceIte, reduceCtorEq, reduceAdd, reduceEqDiff, reduceLeDiff, reduceLT, hwT, selS, erT, scT, esT, eq_true hc21, eq_false hc22, eq_true (bx_nn h_c38), m_c38, v_c38, eq_true hc39]⟩ (ih_spec_l1Skip_L0 (p0, (IntKind.i64.wrap (t1_L0 + 1))) out h Q hx hr)
      · rw [if_neg hc39] at h
        try simp only [gE, ↓gT, ↓reduceIte, reduceCtorEq, reduceAdd, reduceEqDiff, reduceLeDiff, reduceLT, eq_true hc21, eq_false hc22, eq_true (bx_nn h_c38), m_c38, v_c38, eq_false hc39]; (repeat intro (_ : _ ≤ lim))
        by_cases hc40 : c38 = 10
        · rw [if_pos hc40] at h
          refine SemF.cond rfl ?_
          simp only [gE, ↓gT, ↓reduceIte, reduceCtorEq, reduceAdd, reduceEqDiff, reduceLeDiff, reduceLT, eq_true hc21, eq_false hc22, eq_true (bx_nn h_c38), m_c38, v_c38, eq_false hc39, eq_true hc40]
          refine SemF.skip rfl ?_
          simp only [gE, ↓gT, ↓reduceIte, reduceCtorEq, reduceAdd, reduceEqDiff, reduceLeDiff, reduceLT, eq_true hc21, eq_false hc22, eq_true (bx_nn h_c38), m_c38, v_c38, eq_false hc39, eq_true hc40]
          refine SemF.reg true rfl ?_
          try simp only [gE, ↓gT, ↓reduceIte, reduceCtorEq, reduceAdd, reduceEqDiff, reduceLeDiff, reduceLT, eq_true hc21, eq_false hc22, eq_true (bx_nn h_c38), m_c38, v_c38, eq_false hc39, eq_true hc40]; (repeat intro (_ : _ ≤ lim))
          refine SemL.weak (sel := []) ⟨by simp only [gE, ↓gT, ↓reduceIte, reduceCtorEq, reduceAdd, reduceEqDiff, reduceLeDiff, reduceLT, hwT, selS, erT, eq_true hc21, eq_false hc22, eq_true (bx_nn h_c38), m_c38, v_c38, eq_false hc39, eq_true hc40], by decide, by decide, by simp only [gE, ↓gT, ↓reduceIte, reduceCtorEq, reduceAdd, reduceEqDiff, reduceLeDiff, reduceLT, hwT, selS, erT, subR, eq_true hc21, eq_false hc22, eq_true (bx_nn h_c38), m_c38, v_c38, eq_false hc39, eq_true hc40], by simp only [gE, ↓gT, ↓reduceIte, reduceCtorEq, reduceAdd, reduceEqDiff, reduceLeDiff, reduceLT, hwT, selS, erT, scT, esT, eq_true hc21, eq_false hc22, eq_true (bx_nn h_c38), m_c38, v_c38, eq_false hc39, eq_true hc40], by simp only [gE, ↓gT, ↓reduceIte, reduceCtorEq, reduceAdd, reduceEqDiff, reduceLeDiff, reduceLT, hwT, selS, erT, scT, esT, eq_true hc21, eq_false hc22, eq_true (bx_nn h_c38), m_c38, v_c38, eq_false hc39, eq_true hc40]⟩ (ih_spec_l1Skip_L0 (p0, (IntKind.i64.wrap (t1_L0 + 1))) out h Q hx hr)
        · rw [if_neg hc40] at h
          refine SemF.cond rfl ?_
          simp only [gE, ↓gT, ↓reduceIte, reduceCtorEq, reduceAdd, reduceEqDiff, reduceLeDiff, reduceLT, eq_true hc21, eq_false hc22, eq_true (bx_nn h_c38), m_c38, v_c38, eq_false hc39, eq_false hc40]
          refine SemF.seq rfl ?_
          refine SemF.reg true rfl ?_
          try simp only [gE, ↓gT, ↓reduceIte, reduceCtorEq, reduceAdd, reduceEqDiff, reduceLeDiff, reduceLT, eq_true hc21, eq_false hc22, eq_true (bx_nn h_c38), m_c38, v_c38, eq_false hc39, eq_false hc40]; (repeat intro (_ : _ ≤ lim))
          refine SemF.ret rfl ?_
          try simp only [gE, ↓gT, ↓reduceIte, reduceCtorEq, reduceAdd, reduceEqDiff, reduceLeDiff, reduceLT, eq_true hc21, eq_false hc22, eq_true (bx_nn h_c38), m_c38, v_c38, eq_false hc39, eq_false hc40]; (repeat intro (_ : _ ≤ lim))
          obtain rfl := Option.some.inj h
          refine hr _ rfl _ _ ?_
          simp only [gE, ↓gT, ↓reduceIte, reduceCtorEq, reduceAdd, reduceEqDiff, reduceLeDiff, reduceLT, RetP_def, eq_true hc21, eq_false hc22, eq_true (bx_nn h_c38), m_c38, v_c38, eq_false hc39, eq_false hc40]
  · rw [if_neg hc21] at h
    refine SemF.cond rfl ?_
    simp only [gE, ↓gT, ↓reduceIte, reduceCtorEq, reduceAdd, reduceEqDiff, reduceLeDiff, reduceLT, eq_false hc21]
    refine SemF.exit rfl ?_
    simp only [gE, ↓gT, ↓reduceIte, reduceCtorEq, reduceAdd, reduceEqDiff, reduceLeDiff, reduceLT, eq_false hc21]
    obtain rfl := Option.some.inj h
    refine hx _ rfl _ _ [] ⟨by simp only [gE, ↓gT, ↓reduceIte, reduceCtorEq, reduceAdd, reduceEqDiff, reduceLeDiff, reduceLT, hwT, selS, erT, eq_false hc21], by decide, by decide, by simp only [gE, ↓gT, ↓reduceIte, reduceCtorEq, reduceAdd, reduceEqDiff, reduceLeDiff, reduceLT, hwT, selS, erT, subR, eq_false hc21], by simp only [gE, ↓gT, ↓reduceIte, reduceCtorEq, reduceAdd, reduceEqDiff, reduceLeDiff, reduceLT, hwT, selS, erT, scT, esT, eq_false hc21], by simp only [gE, ↓gT, ↓reduceIte, reduceCtorEq, reduceAdd, reduceEqDiff, reduceLeDiff, reduceLT, hwT, selS, erT, scT, esT, eq_false hc21]⟩
theorem spec_l1Skip : ∀ (x : (ByteArray × Int)) (r : Int), M.spec_l1Skip x = some r → HCp P F.spec_l1Skip [(.str x.1), (.int .i64 x.2)] (HV.int .i64 r) := by
  intro x r h
  obtain ⟨p0, p1⟩ := x
  unfold M.spec_l1Skip at h
  try dsimp only at h
  refine HCp.mkF S.spec_l1Skip (by simp [H.spec_l1Skip]) (by simp only [scT, esT, and_self, true_and, and_true]) ?_
  simp only [gE, ↓gT, ↓reduceIte, reduceCtorEq, reduceAdd, reduceEqDiff, reduceLeDiff, reduceLT, H.spec_l1Skip]
  refine SemF.seq rfl ?_
  refine SemF.reg true rfl ?_
  try simp only [gE, ↓gT, ↓reduceIte, reduceCtorEq, reduceAdd, reduceEqDiff, reduceLeDiff, reduceLT]; (repeat intro (_ : _ ≤ lim))
  refine SemF.seq rfl ?_
  refine SemF.block rfl ?_
  obtain ⟨s41, h_s41, h⟩ := bs h
  rcases s41 with r42 | v43
  · dsimp only at h
    refine SemF.loop rfl ?_
    refine SemL.weak (sel := []) ⟨by simp only [gE, ↓gT, ↓reduceIte, reduceCtorEq, reduceAdd, reduceEqDiff, reduceLeDiff, reduceLT, hwT, selS, erT], by decide, by decide, by simp only [gE, ↓gT, ↓reduceIte, reduceCtorEq, reduceAdd, reduceEqDiff, reduceLeDiff, reduceLT, hwT, selS, erT, subR], by simp only [gE, ↓gT, ↓reduceIte, reduceCtorEq, reduceAdd, reduceEqDiff, reduceLeDiff, reduceLT, hwT, selS, erT, scT, esT], by simp only [gE, ↓gT, ↓reduceIte, reduceCtorEq, reduceAdd, reduceEqDiff, reduceLeDiff, reduceLT, hwT, selS, erT, scT, esT]⟩ (K.spec_l1Skip_L0 (p0, p1) (.inl r42) h_s41 _ ?_ ?_)
    · intro v hv; cases hv
    · intro r' hr' env st hy
      cases hr'
      simp only [gE, ↓gT, ↓reduceIte, reduceCtorEq, reduceAdd, reduceEqDiff, reduceLeDiff, reduceLT]
      obtain rfl := Option.some.inj h
      exact hy
  · dsimp only at h
    refine SemF.loop rfl ?_
    refine SemL.weak (sel := []) ⟨by simp only [gE, ↓gT, ↓reduceIte, reduceCtorEq, reduceAdd, reduceEqDiff, reduceLeDiff, reduceLT, hwT, selS, erT], by decide, by decide, by simp only [gE, ↓gT, ↓reduceIte, reduceCtorEq, reduceAdd, reduceEqDiff, reduceLeDiff, reduceLT, hwT, selS, erT, subR], by simp only [gE, ↓gT, ↓reduceIte, reduceCtorEq, reduceAdd, reduceEqDiff, reduceLeDiff, reduceLT, hwT, selS, erT, scT, esT], by simp only [gE, ↓gT, ↓reduceIte, reduceCtorEq, reduceAdd, reduceEqDiff, reduceLeDiff, reduceLT, hwT, selS, erT, scT, esT]⟩ (K.spec_l1Skip_L0 (p0, p1) (.inr v43) h_s41 _ ?_ ?_)
    rotate_left
    · intro r' hr'; cases hr'
    intro v hv env st sel hw
    cases hv
    simp only [gE, ↓gT, ↓reduceIte, reduceCtorEq, reduceAdd, reduceEqDiff, reduceLeDiff, reduceLT]
    first | refine SemF.weak hw ?_ | refine SemL.weak hw ?_
    refine SemF.seq rfl ?_
    refine SemF.reg true rfl ?_
    try simp only [gE, ↓gT, ↓reduceIte, reduceCtorEq, reduceAdd, reduceEqDiff, reduceLeDiff, reduceLT]; (repeat intro (_ : _ ≤ lim))
    refine SemF.ret rfl ?_
    try simp only [gE, ↓gT, ↓reduceIte, reduceCtorEq, reduceAdd, reduceEqDiff, reduceLeDiff, reduceLT]; (repeat intro (_ : _ ≤ lim))
    obtain rfl := Option.some.inj h
    simp only [gE, ↓gT, ↓reduceIte, reduceCtorEq, reduceAdd, reduceEqDiff, reduceLeDiff, reduceLT, RetP_def]
end K
end W
