import Derived.Test.YtnhdobhfebiggaaLPrf8
namespace W
set_option linter.unusedSimpArgs false
set_option linter.unusedVariables false
open Go HL S
open Nat (reduceAdd reduceEqDiff reduceLeDiff reduceSub reduceMul reduceLT)
set_option linter.unusedVariables false
set_option maxRecDepth 100000
set_option maxHeartbeats 4000000
namespace K
theorem spec_l1Place_L0 : ∀ (x : (ByteArray × Int × Int × Int × Int)) (out : (Int × Int)), M.spec_l1Place_L0 x = some out → ∀ Q : HExit → Env → St → Prop, (∀ env st sel, Weak 0 sel [(6, (.int .i64 out.1)), (7, (.int .i64 out.2))] [] env st → Q (.exit 0) env st) → SemL P H.spec_l1Place.ntmps 0 H.spec_l1Place_l6 [(0, (.str x.1)), (1, (.int .i64 x.2.1)), (6, (.int .i64 x.2.2.1)), (7, (.int .i64 x.2.2.2.1)), (8, (.int .i64 x.2.2.2.2))] [] Q := by
  refine M.spec_l1Place_L0.partial_correctness (motive := fun x out => ∀ Q : HExit → Env → St → Prop, (∀ env st sel, Weak 0 sel [(6, (.int .i64 out.1)), (7, (.int .i64 out.2))] [] env st → Q (.exit 0) env st) → SemL P H.spec_l1Place.ntmps 0 H.spec_l1Place_l6 [(0, (.str x.1)), (1, (.int .i64 x.2.1)), (6, (.int .i64 x.2.2.1)), (7, (.int .i64 x.2.2.2.1)), (8, (.int .i64 x.2.2.2.2))] [] Q) ?_
  intro f_spec_l1Place_L0 ih_spec_l1Place_L0 x out h
  obtain ⟨p0, p1, t6_L0, t7_L0, t8_L0⟩ := x
  try dsimp only at h
  intro Q hx
  refine SemL.round ?_
  try dsimp only at hx
  refine SemF.seq rfl ?_
  refine SemF.seq rfl ?_
  refine SemF.reg true rfl ?_
  try simp only [gE, ↓gT, ↓reduceIte, reduceCtorEq, reduceAdd, reduceEqDiff, reduceLeDiff, reduceLT]; (repeat intro (_ : _ ≤ lim))
  by_cases hc4 : t8_L0 < p1
  · rw [if_pos hc4] at h
    refine SemF.cond rfl ?_
    simp only [gE, ↓gT, ↓reduceIte, reduceCtorEq, reduceAdd, reduceEqDiff, reduceLeDiff, reduceLT, eq_true hc4]
    refine SemF.skip rfl ?_
    simp only [gE, ↓gT, ↓reduceIte, reduceCtorEq, reduceAdd, reduceEqDiff, reduceLeDiff, reduceLT, eq_true hc4]
    refine SemF.seq rfl ?_
    refine SemF.block rfl ?_
    refine SemF.seq rfl ?_
    refine SemF.reg true rfl ?_
    try simp only [gE, ↓gT, ↓reduceIte, reduceCtorEq, reduceAdd, reduceEqDiff, reduceLeDiff, reduceLT, eq_true hc4]; (repeat intro (_ : _ ≤ lim))
    refine SemF.seq rfl ?_
    refine SemF.reg true rfl ?_
    try simp only [gE, ↓gT, ↓reduceIte, reduceCtorEq, reduceAdd, reduceEqDiff, reduceLeDiff, reduceLT, eq_true hc4]; (repeat intro (_ : _ ≤ lim))
    obtain ⟨c5, h_c5, h⟩ := bs h
    obtain ⟨c_c5, m_c5, v_c5⟩ := bx_get h_c5
    try simp only [gE, ↓gT, ↓reduceIte, reduceCtorEq, reduceAdd, reduceEqDiff, reduceLeDiff, reduceLT, eq_true hc4, eq_true (bx_nn h_c5), m_c5, v_c5]; (repeat intro (_ : _ ≤ lim))
    by_cases hc6 : c5 = 10
    · rw [if_pos hc6] at h
      refine SemF.cond rfl ?_
      simp only [gE, ↓gT, ↓reduceIte, reduceCtorEq, reduceAdd, reduceEqDiff, reduceLeDiff, reduceLT, eq_true hc4, eq_true (bx_nn h_c5), m_c5, v_c5, eq_true hc6]
      refine SemF.seq rfl ?_
      refine SemF.reg true rfl ?_
      try simp only [gE, ↓gT, ↓reduceIte, reduceCtorEq, reduceAdd, reduceEqDiff, reduceLeDiff, reduceLT, eq_true hc4, eq_true (bx_nn h_c5), m_c5, v_c5, eq_true hc6]; (repeat intro (_ : _ ≤ lim))
      refine SemF.reg true rfl ?_
      try simp only [gE, ↓gT, ↓reduceIte, reduceCtorEq, reduceAdd, reduceEqDiff, reduceLeDiff, reduceLT, eq_true hc4, eq_true (bx_nn h_c5), m_c5, v_c5, eq_true hc6]; (repeat intro (_ : _ ≤ lim))
      refine SemF.reg true rfl ?_
      try simp only [gE, ↓gT, ↓reduceIte, reduceCtorEq, reduceAdd, reduceEqDiff, reduceLeDiff, reduceLT, eq_true hc4, eq_true (bx_nn h_c5), m_c5, v_c5, eq_true hc6]; (repeat intro (_ : _ ≤ lim))
      refine SemL.weak (sel := []) ⟨by simp only [gE, ↓gT, ↓reduceIte, reduceCtorEq, reduceAdd, reduceEqDiff, reduceLeDiff, reduceLT, hwT, selS, erT, eq_true hc4, eq_true (bx_nn h_c5), m_c5, v_c5, eq_true hc6], by decide, by decide, by simp only [gE, ↓gT, ↓reduceIte, reduceCtorEq, reduceAdd, reduceEqDiff, reduceLeDiff, reduceLT, hwT, selS, erT, subR, eq_true hc4, eq_true (bx_nn h_c5), m_c5, v_c5, eq_true hc6], by simp only [gE, ↓gT, ↓reduceIte, reduceCtorEq, reduceAdd, reduceEqDiff, reduceLeDiff, reduceLT, hwT, selS, erT, scT, esT, eq_true hc4, eq_true (bx_nn h_c5), m_c5, v_c5, eq_true hc6], by simp only [gE, ↓gT, ↓reduceIte, reduceCtorEq, reduceAdd, reduceEqDiff, reduceLeDiff, reduceLT, hwT, selS, erT, scT, esT, eq_true hc4, eq_true (bx_nn h_c5), m_c5, v_c5, eq_true hc6]⟩ (ih_spec_l1Place_L0 (p0, p1, (IntKind.i64.wrap (t6_L0 + 1)), 1, (IntKind.i64.wrap (t8_L0 + 1))) out h Q hx)
    · rw [if_neg hc6] at h
      refine SemF.cond rfl ?_
      simp only [gE, ↓gT, ↓reduceIte, reduceCtorEq, reduceAdd, reduceEqDiff, reduceLeDiff, reduceLT, eq_true hc4, eq_true (bx_nn h_c5), m_c5, v_c5, eq_false hc6]
      refine SemF.skip rfl ?_
      simp only [gE, ↓gT, ↓reduceIte, reduceCtorEq, reduceAdd, reduceEqDiff, reduceLeDiff, reduceLT, eq_true hc4, eq_true (bx_nn h_c5), m_c5, v_c5, eq_false hc6]
      refine SemF.reg true rfl ?_
      try simp only [gE, ↓gT, ↓reduceIte, reduceCtorEq, reduceAdd, reduceEqDiff, reduceLeDiff, reduceLT, eq_true hc4, eq_true (bx_nn h_c5), m_c5, v_c5, eq_false hc6]; (repeat intro (_ : _ ≤ lim))
      refine SemL.weak (sel := []) ⟨by simp only [gE, ↓gT, ↓reduceIte, reduceCtorEq, reduceAdd, reduceEqDiff, reduceLeDiff, reduceLT, hwT, selS, erT, eq_true hc4, eq_true (bx_nn h_c5), m_c5, v_c5, eq_false hc6], by decide, by decide, by simp only [gE, ↓gT, ↓reduceIte, reduceCtorEq, reduceAdd, reduceEqDiff, reduceLeDiff, reduceLT, hwT, selS, erT, subR, eq_true hc4, eq_true (bx_nn h_c5), m_c5, v_c5, eq_false hc6], by simp only [gE, ↓gT, ↓reduceIte, reduceCtorEq, reduceAdd, reduceEqDiff, reduceLeDiff, reduceLT, hwT, selS, erT, scT, esT, eq_true hc4, eq_true (bx_nn h_c5), m_c5, v_c5, eq_false hc6], by simp only [gE, ↓gT, ↓reduceIte, reduceCtorEq, reduceAdd, reduceEqDiff, reduceLeDiff, reduceLT, hwT, selS, erT, scT, esT, eq_true hc4, eq_true (bx_nn h_c5), m_c5, v_c5, eq_false hc6]⟩ (ih_spec_l1Place_L0 (p0, p1, t6_L0, (IntKind.i64.wrap (t7_L0 + 1)), (IntKind.i64.wrap (t8_L0 + 1))) out h Q hx)
  · rw [if_neg hc4] at h
    refine SemF.cond rfl ?_
    simp only [gE, ↓gT, ↓reduceIte, reduceCtorEq, reduceAdd, reduceEqDiff, reduceLeDiff, reduceLT, eq_false hc4]
    refine SemF.exit rfl ?_
    simp only [gE, ↓gT, ↓reduceIte, reduceCtorEq, reduceAdd, reduceEqDiff, reduceLeDiff, reduceLT, eq_false hc4]
    obtain rfl := Option.some.inj h
    refine hx _ _ [] ⟨by simp only [gE, ↓gT, ↓reduceIte, reduceCtorEq, reduceAdd, reduceEqDiff, reduceLeDiff, reduceLT, hwT, selS, erT, eq_false hc4], by decide, by decide, by simp only [gE, ↓gT, ↓reduceIte, reduceCtorEq, reduceAdd, reduceEqDiff, reduceLeDiff, reduceLT, hwT, selS, erT, subR, eq_false hc4], by simp only [gE, ↓gT, ↓reduceIte, reduceCtorEq, reduceAdd, reduceEqDiff, reduceLeDiff, reduceLT, hwT, selS, erT, scT, esT, eq_false hc4], by simp only [gE, ↓gT, ↓reduceIte, reduceCtorEq, reduceAdd, reduceEqDiff, reduceLeDiff, reduceLT, hwT, selS, erT, scT, esT, eq_false hc4]⟩
theorem spec_l1Place : ∀ (x : (ByteArray × Int)) (r : (Int × Int)), M.spec_l1Place x = some r → HCp P F.spec_l1Place [(.str x.1), (.int .i64 x.2)] (HV.tup [(HV.int .i64 r.1), (HV.int .i64 r.2)]) := by
  intro x r h
  obtain ⟨p0, p1⟩ := x
  unfold M.spec_l1Place at h
  try dsimp only at h
  refine HCp.mkF S.spec_l1Place (by simp [H.spec_l1Place]) (by simp only [scT, esT, and_self, true_and, and_true]) ?_
  simp only [gE, ↓gT, ↓reduceIte, reduceCtorEq, reduceAdd, reduceEqDiff, reduceLeDiff, reduceLT, H.spec_l1Place]
  refine SemF.seq rfl ?_
  refine SemF.reg true rfl ?_
  try simp only [gE, ↓gT, ↓reduceIte, reduceCtorEq, reduceAdd, reduceEqDiff, reduceLeDiff, reduceLT]; (repeat intro (_ : _ ≤ lim))
  refine SemF.seq rfl ?_
  refine SemF.reg true rfl ?_
  try simp only [gE, ↓gT, ↓reduceIte, reduceCtorEq, reduceAdd, reduceEqDiff, reduceLeDiff, reduceLT]; (repeat intro (_ : _ ≤ lim))
  refine SemF.seq rfl ?_
  refine SemF.reg true rfl ?_
  try simp only [gE, ↓gT, ↓reduceIte, reduceCtorEq, reduceAdd, reduceEqDiff, reduceLeDiff, reduceLT]; (repeat intro (_ : _ ≤ lim))
  refine SemF.seq rfl ?_
  refine SemF.seq rfl ?_
  refine SemF.reg true rfl ?_
  try simp only [gE, ↓gT, ↓reduceIte, reduceCtorEq, reduceAdd, reduceEqDiff, reduceLeDiff, reduceLT]; (repeat intro (_ : _ ≤ lim))
  refine SemF.block rfl ?_
  obtain ⟨s7, h_s7, h⟩ := bs h
  refine SemF.loop rfl ?_
  refine SemL.weak (sel := []) ⟨by simp only [gE, ↓gT, ↓reduceIte, reduceCtorEq, reduceAdd, reduceEqDiff, reduceLeDiff, reduceLT, hwT, selS, erT], by decide, by decide, by simp only [gE, ↓gT, ↓reduceIte, reduceCtorEq, reduceAdd, reduceEqDiff, reduceLeDiff, reduceLT, hwT, selS, erT, subR], by simp only [gE, ↓gT, ↓reduceIte, reduceCtorEq, reduceAdd, reduceEqDiff, reduceLeDiff, reduceLT, hwT, selS, erT, scT, esT], by simp only [gE, ↓gT, ↓reduceIte, reduceCtorEq, reduceAdd, reduceEqDiff, reduceLeDiff, reduceLT, hwT, selS, erT, scT, esT]⟩ (K.spec_l1Place_L0 (p0, p1, 1, 1, 0) s7 h_s7 _ ?_)
  intro env st sel hw
  simp only [gE, ↓gT, ↓reduceIte, reduceCtorEq, reduceAdd, reduceEqDiff, reduceLeDiff, reduceLT]
  first | refine SemF.weak hw ?_ | refine SemL.weak hw ?_
  refine SemF.seq rfl ?_
  refine SemF.reg true rfl ?_
  try simp only [gE, ↓gT, ↓reduceIte, reduceCtorEq, reduceAdd, reduceEqDiff, reduceLeDiff, reduceLT]; (repeat intro (_ : _ ≤ lim))
  refine SemF.ret rfl ?_
  try simp only [gE, ↓gT, ↓reduceIte, reduceCtorEq, reduceAdd, reduceEqDiff, reduceLeDiff, reduceLT]; (repeat intro (_ : _ ≤ lim))
  obtain rfl := Option.some.inj h
  simp only [gE, ↓gT, ↓reduceIte, reduceCtorEq, reduceAdd, reduceEqDiff, reduceLeDiff, reduceLT, RetP_def]
theorem spec_Lex_L1 : ∀ (x : (ByteArray × (List Tok) × Int × (Int × Int) × Int × Int × Int)) (out : (Int × Int)), M.spec_Lex_L1 x = some out → ∀ Q : HExit → Env → St → Prop, (∀ env st sel, Weak 0 sel [(0, (.str x.1)), (4, (.own 0 x.2.1.length)), (5, (.int .i64 out.1)), (6, (.int .i64 out.2)), (8, (.int .i64 x.2.2.1)), (9, (.int .i64 x.2.2.2.1.1)), (10, (.int .i64 x.2.2.2.1.2))] [(.arr 4 (List.map Tok.enc x.2.1) true)] env st → Q (.exit 2) env st) → SemL P H.spec_Lex.ntmps 0 H.spec_Lex_l21 [(0, (.str x.1)), (4, (.own 0 x.2.1.length)), (5, (.int .i64 x.2.2.2.2.1)), (6, (.int .i64 x.2.2.2.2.2.1)), (8, (.int .i64 x.2.2.1)), (9, (.int .i64 x.2.2.2.1.1)), (10, (.int .i64 x.2.2.2.1.2)), (11, (.int .i64 x.2.2.2.2.2.2))] [(.arr 4 (List.map Tok.enc x.2.1) true)] Q := by
  refine M.spec_Lex_L1.partial_correctness (motive := fun x out => ∀ Q : HExit → Env → St → Prop, (∀ env st sel, Weak 0 sel [(0, (.str x.1)), (4, (.own 0 x.2.1.length)), (5, (.int .i64 out.1)), (6, (.int .i64 out.2)), (8, (.int .i64 x.2.2.1)), (9, (.int .i64 x.2.2.2.1.1)), (10, (.int .i64 x.2.2.2.1.2))] [(.arr 4 (List.map Tok.enc x.2.1) true)] env st → Q (.exit 2) env st) → SemL P H.spec_Lex.ntmps 0 H.spec_Lex_l21 [(0, (.str x.1)), (4, (.own 0 x.2.1.length)), (5, (.int .i64 x.2.2.2.2.1)), (6, (.int .i64 x.2.2.2.2.2.1)), (8, (.int .i64 x.2.2.1)), (9, (.int .i64 x.2.2.2.1.1)), (10, (.int .i64 x.2.2.2.1.2)), (11, (.int .i64 x.2.2.2.2.2.2))] [(.arr 4 (List.map Tok.enc x.2.1) true)] Q) ?_
  intro f_spec_Lex_L1 ih_spec_Lex_L1 x out h
  obtain ⟨p0, t4_L0, t8_L0, r25, t5_L1, t6_L1, t11_L1⟩ := x
  try dsimp only at h
  intro Q hx
  refine SemL.round ?_
  try dsimp only at hx
  refine SemF.seq rfl ?_
  refine SemF.seq rfl ?_
  refine SemF.reg true rfl ?_
  try simp only [gE, ↓gT, ↓reduceIte, reduceCtorEq, reduceAdd, reduceEqDiff, reduceLeDiff, reduceLT]; (repeat intro (_ : _ ≤ lim))
  by_cases hc31 : t11_L1 < t8_L0
  · rw [if_pos hc31] at h
    refine SemF.cond rfl ?_
    simp only [gE, ↓gT, ↓reduceIte, reduceCtorEq, reduceAdd, reduceEqDiff, reduceLeDiff, reduceLT, eq_true hc31]
    refine SemF.skip rfl ?_
    simp only [gE, ↓gT, ↓reduceIte, reduceCtorEq, reduceAdd, reduceEqDiff, reduceLeDiff, reduceLT, eq_true hc31]
    refine SemF.seq rfl ?_
    refine SemF.block rfl ?_
    refine SemF.seq rfl ?_
    refine SemF.reg true rfl ?_
    try simp only [gE, ↓gT, ↓reduceIte, reduceCtorEq, reduceAdd, reduceEqDiff, reduceLeDiff, reduceLT, eq_true hc31]; (repeat intro (_ : _ ≤ lim))
    obtain ⟨c32, h_c32, h⟩ := bs h
    obtain ⟨c_c32, m_c32, v_c32⟩ := bx_get h_c32
    try simp only [gE, ↓gT, ↓reduceIte, reduceCtorEq, reduceAdd, reduceEqDiff, reduceLeDiff, reduceLT, eq_true hc31, eq_true (bx_nn h_c32), m_c32, v_c32]; (repeat intro (_ : _ ≤ lim))
    by_cases hc33 : c32 = 10
    · rw [if_pos hc33] at h
      refine SemF.cond rfl ?_
      simp only [gE, ↓gT, ↓reduceIte, reduceCtorEq, reduceAdd, reduceEqDiff, reduceLeDiff, reduceLT, eq_true hc31, eq_true (bx_nn h_c32), m_c32, v_c32, eq_true hc33]
      refine SemF.seq rfl ?_
      refine SemF.reg true rfl ?_
      try simp only [gE, ↓gT, ↓reduceIte, reduceCtorEq, reduceAdd, reduceEqDiff, reduceLeDiff, reduceLT, eq_true hc31, eq_true (bx_nn h_c32), m_c32, v_c32, eq_true hc33]; (repeat intro (_ : _ ≤ lim))
      refine SemF.reg true rfl ?_
      try simp only [gE, ↓gT, ↓reduceIte, reduceCtorEq, reduceAdd, reduceEqDiff, reduceLeDiff, reduceLT, eq_true hc31, eq_true (bx_nn h_c32), m_c32, v_c32, eq_true hc33]; (repeat intro (_ : _ ≤ lim))
      refine SemF.reg true rfl ?_
      try simp only [gE, ↓gT, ↓reduceIte, reduceCtorEq, reduceAdd, reduceEqDiff, reduceLeDiff, reduceLT, eq_true hc31, eq_true (bx_nn h_c32), m_c32, v_c32, eq_true hc33]; (repeat intro (_ : _ ≤ lim))
      refine SemL.weak (sel := [0]) ⟨by simp only [gE, ↓gT, ↓reduceIte, reduceCtorEq, reduceAdd, reduceEqDiff, reduceLeDiff, reduceLT, hwT, selS, erT, eq_true hc31, eq_true (bx_nn h_c32), m_c32, v_c32, eq_true hc33], by decide, by decide, by simp only [gE, ↓gT, ↓reduceIte, reduceCtorEq, reduceAdd, reduceEqDiff, reduceLeDiff, reduceLT, hwT, selS, erT, subR, eq_true hc31, eq_true (bx_nn h_c32), m_c32, v_c32, eq_true hc33], by simp only [gE, ↓gT, ↓reduceIte, reduceCtorEq, reduceAdd, reduceEqDiff, reduceLeDiff, reduceLT, hwT, selS, erT, scT, esT, eq_true hc31, eq_true (bx_nn h_c32), m_c32, v_c32, eq_true hc33], by simp only [gE, ↓gT, ↓reduceIte, reduceCtorEq, reduceAdd, reduceEqDiff, reduceLeDiff, reduceLT, hwT, selS, erT, scT, esT, eq_true hc31, eq_true (bx_nn h_c32), m_c32, v_c32, eq_true hc33]⟩ (ih_spec_Lex_L1 (p0, t4_L0, t8_L0, r25, (IntKind.i64.wrap (t5_L1 + 1)), (IntKind.i64.wrap (t11_L1 + 1)), (IntKind.i64.wrap (t11_L1 + 1))) out h Q hx)
    · rw [if_neg hc33] at h
      refine SemF.cond rfl ?_
      simp only [gE, ↓gT, ↓reduceIte, reduceCtorEq, reduceAdd, reduceEqDiff, reduceLeDiff, reduceLT, eq_true hc31, eq_true (bx_nn h_c32), m_c32, v_c32, eq_false hc33]
      refine SemF.skip rfl ?_
      simp only [gE, ↓gT, ↓reduceIte, reduceCtorEq, reduceAdd, reduceEqDiff, reduceLeDiff, reduceLT, eq_true hc31, eq_true (bx_nn h_c32), m_c32, v_c32, eq_false hc33]
      refine SemF.reg true rfl ?_
      try simp only [gE, ↓gT, ↓reduceIte, reduceCtorEq, reduceAdd, reduceEqDiff, reduceLeDiff, reduceLT, eq_true hc31, eq_true (bx_nn h_c32), m_c32, v_c32, eq_false hc33]; (repeat intro (_ : _ ≤ lim))
      refine SemL.weak (sel := [0]) ⟨by simp only [gE, ↓gT, ↓reduceIte, reduceCtorEq, reduceAdd, reduceEqDiff, reduceLeDiff, reduceLT, hwT, selS, erT, eq_true hc31, eq_true (bx_nn h_c32), m_c32, v_c32, eq_false hc33], by decide, by decide, by simp only [gE, ↓gT, ↓reduceIte, reduceCtorEq, reduceAdd, reduceEqDiff, reduceLeDiff, reduceLT, hwT, selS, erT, subR, eq_true hc31, eq_true (bx_nn h_c32), m_c32, v_c32, eq_false hc33], by simp only [gE, ↓gT, ↓reduceIte, reduceCtorEq, reduceAdd, reduceEqDiff, reduceLeDiff, reduceLT, hwT, selS, erT, scT, esT, eq_true hc31, eq_true (bx_nn h_c32), m_c32, v_c32, eq_false hc33], by simp only [gE, ↓gT, ↓reduceIte, reduceCtorEq, reduceAdd, reduceEqDiff, reduceLeDiff, reduceLT, hwT, selS, erT, scT, esT, eq_true hc31, eq_true (bx_nn h_c32), m_c32, v_c32, eq_false hc33]⟩ (ih_spec_Lex_L1 (p0, t4_L0, t8_L0, r25, t5_L1, t6_L1, (IntKind.i64.wrap (t11_L1 + 1))) out h Q hx)
  · rw [if_neg hc31] at h
    refine SemF.cond rfl ?_
    simp only [gE, ↓gT, ↓reduceIte, reduceCtorEq, reduceAdd, reduceEqDiff, reduceLeDiff, reduceLT, eq_false hc31]
    refine SemF.exit rfl ?_
    simp only [gE, ↓gT, ↓reduceIte, reduceCtorEq, reduceAdd, reduceEqDiff, reduceLeDiff, reduceLT, eq_false hc31]
    obtain rfl := Option.some.inj h
    refine hx _ _ [0] ⟨by simp only [gE, ↓gT, ↓reduceIte, reduceCtorEq, reduceAdd, reduceEqDiff, reduceLeDiff, reduceLT, hwT, selS, erT, eq_false hc31], by decide, by decide, by simp only [gE, ↓gT, ↓reduceIte, reduceCtorEq, reduceAdd, reduceEqDiff, reduceLeDiff, reduceLT, hwT, selS, erT, subR, eq_false hc31], by simp only [gE, ↓gT, ↓reduceIte, reduceCtorEq, reduceAdd, reduceEqDiff, reduceLeDiff, reduceLT, hwT, selS, erT, scT, esT, eq_false hc31], by simp only [gE, ↓gT, ↓reduceIte, reduceCtorEq, reduceAdd, reduceEqDiff, reduceLeDiff, reduceLT, hwT, selS, erT, scT, esT, eq_false hc31]⟩
theorem spec_Lex_L0 : ∀ (x : (ByteArray × (List Tok) × Int × Int × Int × Int)) (out : (Sum ((List Tok) × Bool) (List Tok))), M.spec_Lex_L0 x = some out → ∀ Q : HExit → Env → St → Prop, (∀ v, out = .inr v → ∀ env st sel, Weak 0 sel [(0, (.str x.1)), (4, (.own 0 v.length))] [(.arr 4 (List.map Tok.enc v) true)] env st → Q (.exit 0) env st) → (∀ r, out = .inl r → ∀ env st, RetP [(2, none), (3, none)] (HV.tup [(HV.sl (List.map Tok.enc r.1)), (HV.bool r.2)]) env st → Q .ret env st) → SemL P H.spec_Lex.ntmps 0 H.spec_Lex_l12 [(0, (.str x.1)), (4, (.own 0 x.2.1.length)), (5, (.int .i64 x.2.2.1)), (6, (.int .i64 x.2.2.2.1)), (7, (.int .i64 x.2.2.2.2.1)), (8, (.int .i64 x.2.2.2.2.2))] [(.arr 4 (List.map Tok.enc x.2.1) true)] Q := by
  refine M.spec_Lex_L0.partial_correctness (motive := fun x out => ∀ Q : HExit → Env → St → Prop, (∀ v, out = .inr v → ∀ env st sel, Weak 0 sel [(0, (.str x.1)), (4, (.own 0 v.length))] [(.arr 4 (List.map Tok.enc v) true)] env st → Q (.exit 0) env st) → (∀ r, out = .inl r → ∀ env st, RetP [(2, none), (3, none)] (HV.tup [(HV.sl (List.map Tok.enc r.1)), (HV.bool r.2)]) env st → Q .ret env st) → SemL P H.spec_Lex.ntmps 0 H.spec_Lex_l12 [(0, (.str x.1)), (4, (.own 0 x.2.1.length)), (5, (.int .i64 x.2.2.1)), (6, (.int .i64 x.2.2.2.1)), (7, (.int .i64 x.2.2.2.2.1)), (8, (.int .i64 x.2.2.2.2.2))] [(.arr 4 (List.map Tok.enc x.2.1) true)] Q) ?_
  intro f_spec_Lex_L0 ih_spec_Lex_L0 x out h
  obtain ⟨p0, t4_L0, t5_L0, t6_L0, t7_L0, t8_L0⟩ := x
  try dsimp only at h
  intro Q hx hr
  refine SemL.round ?_
  try dsimp only at hx
  refine SemF.seq rfl ?_
  refine SemF.seq rfl ?_
  refine SemF.reg true rfl ?_
  try simp only [gE, ↓gT, ↓reduceIte, reduceCtorEq, reduceAdd, reduceEqDiff, reduceLeDiff, reduceLT]; (repeat intro (_ : _ ≤ lim))
  (repeat intro (_ : _ ≤ lim))
  by_cases hc23 : t8_L0 < ((p0.size : Nat) : Int)
  · rw [if_pos hc23] at h
    try simp only [gE, ↓gT, ↓reduceIte, reduceCtorEq, reduceAdd, reduceEqDiff, reduceLeDiff, reduceLT, eq_true hc23]; (repeat intro (_ : _ ≤ lim))
    (repeat intro (_ : _ ≤ lim))
    by_cases hc24 : ((p0.size : Nat) : Int) ≤ 1500
    · rw [if_pos hc24] at h
      refine SemF.cond rfl ?_
      simp only [gE, ↓gT, ↓reduceIte, reduceCtorEq, reduceAdd, reduceEqDiff, reduceLeDiff, reduceLT, eq_true hc23, eq_true hc24]
      refine SemF.skip rfl ?_
      simp only [gE, ↓gT, ↓reduceIte, reduceCtorEq, reduceAdd, reduceEqDiff, reduceLeDiff, reduceLT, eq_true hc23, eq_true hc24]
      refine SemF.seq rfl ?_
      refine SemF.block rfl ?_
      refine SemF.seq rfl ?_
      refine SemF.reg true rfl ?_
      try simp only [gE, ↓gT, ↓reduceIte, reduceCtorEq, reduceAdd, reduceEqDiff, reduceLeDiff, reduceLT, eq_true hc23, eq_true hc24]; (repeat intro (_ : _ ≤ lim))
      obtain ⟨r25, h_r25, h⟩ := bs h
      refine HCp.callE (K.spec_l1Next (p0, t8_L0) r25 h_r25) (by simp only [gE, ↓gT, ↓reduceIte, reduceCtorEq, reduceAdd, reduceEqDiff, reduceLeDiff, reduceLT, eq_true hc23, eq_true hc24]) (by simp only [scT, esT, and_self, true_and, and_true]) (by simp only [scT, esT, and_self, true_and, and_true]) ?_
      try simp only [gE, ↓gT, ↓reduceIte, reduceCtorEq, reduceAdd, reduceEqDiff, reduceLeDiff, reduceLT, eq_true hc23, eq_true hc24]; (repeat intro (_ : _ ≤ lim))
      refine SemF.seq rfl ?_
      refine SemF.seq rfl ?_
      refine SemF.reg true rfl ?_
      try simp only [gE, ↓gT, ↓reduceIte, reduceCtorEq, reduceAdd, reduceEqDiff, reduceLeDiff, reduceLT, eq_true hc23, eq_true hc24]; (repeat intro (_ : _ ≤ lim))
      by_cases hc26 : r25.2 = 0
      · rw [if_pos hc26] at h
        try simp only [gE, ↓gT, ↓reduceIte, reduceCtorEq, reduceAdd, reduceEqDiff, reduceLeDiff, reduceLT, eq_true hc23, eq_true hc24, eq_true hc26]; (repeat intro (_ : _ ≤ lim))
        refine SemF.cond rfl ?_
        simp only [gE, ↓gT, ↓reduceIte, reduceCtorEq, reduceAdd, reduceEqDiff, reduceLeDiff, reduceLT, eq_true hc23, eq_true hc24, eq_true hc26]
        refine SemF.seq rfl ?_
        refine SemF.reg true rfl ?_
        try simp only [gE, ↓gT, ↓reduceIte, reduceCtorEq, reduceAdd, reduceEqDiff, reduceLeDiff, reduceLT, eq_true hc23, eq_true hc24, eq_true hc26]; (repeat intro (_ : _ ≤ lim))
        refine SemF.ret rfl ?_
        try simp only [gE, ↓gT, ↓reduceIte, reduceCtorEq, reduceAdd, reduceEqDiff, reduceLeDiff, reduceLT, eq_true hc23, eq_true hc24, eq_true hc26]; (repeat intro (_ : _ ≤ lim))
        obtain rfl := Option.some.inj h
        refine hr _ rfl _ _ ?_
        simp only [gE, ↓gT, ↓reduceIte, reduceCtorEq, reduceAdd, reduceEqDiff, reduceLeDiff, reduceLT, RetP_def, eq_true hc23, eq_true hc24, eq_true hc26]
      · rw [if_neg hc26] at h
        try simp only [gE, ↓gT, ↓reduceIte, reduceCtorEq, reduceAdd, reduceEqDiff, reduceLeDiff, reduceLT, eq_true hc23, eq_true hc24, eq_false hc26]; (repeat intro (_ : _ ≤ lim))
        (repeat intro (_ : _ ≤ lim))
        by_cases hc27 : 400 ≤ ((t4_L0.length : Nat) : Int)
        · rw [if_pos hc27] at h
          refine SemF.cond rfl ?_
          simp only [gE, ↓gT, ↓reduceIte, reduceCtorEq, reduceAdd, reduceEqDiff, reduceLeDiff, reduceLT, eq_true hc23, eq_true hc24, eq_false hc26, eq_true hc27]
          refine SemF.seq rfl ?_
          refine SemF.reg true rfl ?_
          try simp only [gE, ↓gT, ↓reduceIte, reduceCtorEq, reduceAdd, reduceEqDiff, reduceLeDiff, reduceLT, eq_true hc23, eq_true hc24, eq_false hc26, eq_true hc27]; (repeat intro (_ : _ ≤ lim))
          refine SemF.ret rfl ?_
          try simp only [gE, ↓gT, ↓reduceIte, reduceCtorEq, reduceAdd, reduceEqDiff, reduceLeDiff, reduceLT, eq_true hc23, eq_true hc24, eq_false hc26, eq_true hc27]; (repeat intro (_ : _ ≤ lim))
          obtain rfl := Option.some.inj h
          refine hr _ rfl _ _ ?_
          simp only [gE, ↓gT, ↓reduceIte, reduceCtorEq, reduceAdd, reduceEqDiff, reduceLeDiff, reduceLT, RetP_def, eq_true hc23, eq_true hc24, eq_false hc26, eq_true hc27]
        · rw [if_neg hc27] at h
          refine SemF.cond rfl ?_
          simp only [gE, ↓gT, ↓reduceIte, reduceCtorEq, reduceAdd, reduceEqDiff, reduceLeDiff, reduceLT, eq_true hc23, eq_true hc24, eq_false hc26, eq_false hc27]
          refine SemF.skip rfl ?_
          simp only [gE, ↓gT, ↓reduceIte, reduceCtorEq, reduceAdd, reduceEqDiff, reduceLeDiff, reduceLT, eq_true hc23, eq_true hc24, eq_false hc26, eq_false hc27]
          refine SemF.seq rfl ?_
          refine SemF.seq rfl ?_
          refine SemF.reg true rfl ?_
          try simp only [gE, ↓gT, ↓reduceIte, reduceCtorEq, reduceAdd, reduceEqDiff, reduceLeDiff, reduceLT, eq_true hc23, eq_true hc24, eq_false hc26, eq_false hc27]; (repeat intro (_ : _ ≤ lim))
          refine SemF.block rfl ?_
          obtain ⟨s34, h_s34, h⟩ := bs h
          refine SemF.loop rfl ?_
          refine SemL.weak (sel := [0]) ⟨by simp only [gE, ↓gT, ↓reduceIte, reduceCtorEq, reduceAdd, reduceEqDiff, reduceLeDiff, reduceLT, hwT, selS, erT, eq_true hc23, eq_true hc24, eq_false hc26, eq_false hc27], by decide, by decide, by simp only [gE, ↓gT, ↓reduceIte, reduceCtorEq, reduceAdd, reduceEqDiff, reduceLeDiff, reduceLT, hwT, selS, erT, subR, eq_true hc23, eq_true hc24, eq_false hc26, eq_false hc27], by simp only [gE, ↓gT, ↓reduceIte, reduceCtorEq, reduceAdd, reduceEqDiff, reduceLeDiff, reduceLT, hwT, selS, erT, scT, esT, eq_true hc23, eq_true hc24, eq_false hc26, eq_false hc27], by simp only [gE, ↓gT, ↓reduceIte, reduceCtorEq, reduceAdd, reduceEqDiff, reduceLeDiff, reduceLT, hwT, selS, erT, scT, esT, eq_true hc23, eq_true hc24, eq_false hc26, eq_false hc27]⟩ (K.spec_Lex_L1 (p0, t4_L0, t8_L0, r25, t5_L0, t6_L0, t7_L0) s34 h_s34 _ ?_)
          intro env st sel hw
          simp only [gE, ↓gT, ↓reduceIte, reduceCtorEq, reduceAdd, reduceEqDiff, reduceLeDiff, reduceLT]
          first | refine SemF.weak hw ?_ | refine SemL.weak hw ?_
          refine SemF.seq rfl ?_
          refine SemF.reg true rfl ?_
          try simp only [gE, ↓gT, ↓reduceIte, reduceCtorEq, reduceAdd, reduceEqDiff, reduceLeDiff, reduceLT, eq_true hc23, eq_true hc24, eq_false hc26, eq_false hc27]; (repeat intro (_ : _ ≤ lim))
          refine SemF.seq rfl ?_
          refine SemF.reg true rfl ?_
          try simp only [gE, ↓gT, ↓reduceIte, reduceCtorEq, reduceAdd, reduceEqDiff, reduceLeDiff, reduceLT, eq_true hc23, eq_true hc24, eq_false hc26, eq_false hc27]; (repeat intro (_ : _ ≤ lim))
          obtain ⟨u36, h_u36, h⟩ := bs h
          have hg35 := gd_some h_u36
          try simp only [gE, ↓gT, ↓reduceIte, reduceCtorEq, reduceAdd, reduceEqDiff, reduceLeDiff, reduceLT, eq_true hc23, eq_true hc24, eq_false hc26, eq_false hc27, eq_true hg35]; (repeat intro (_ : _ ≤ lim))
          obtain ⟨u38, h_u38, h⟩ := bs h
          have hg37 := gd_some h_u38
          try simp only [gE, ↓gT, ↓reduceIte, reduceCtorEq, reduceAdd, reduceEqDiff, reduceLeDiff, reduceLT, eq_true hc23, eq_true hc24, eq_false hc26, eq_false hc27, eq_true hg35, eq_true hg37]; (repeat intro (_ : _ ≤ lim))
          obtain ⟨u40, h_u40, h⟩ := bs h
          have hg39 := gd_some h_u40
          try simp only [gE, ↓gT, ↓reduceIte, reduceCtorEq, reduceAdd, reduceEqDiff, reduceLeDiff, reduceLT, eq_true hc23, eq_true hc24, eq_false hc26, eq_false hc27, eq_true hg35, eq_true hg37, eq_true hg39]; (repeat intro (_ : _ ≤ lim))
          obtain ⟨u42, h_u42, h⟩ := bs h
          have hg41 := gd_some h_u42
          try simp only [gE, ↓gT, ↓reduceIte, reduceCtorEq, reduceAdd, reduceEqDiff, reduceLeDiff, reduceLT, eq_true hc23, eq_true hc24, eq_false hc26, eq_false hc27, eq_true hg35, eq_true hg37, eq_true hg39, eq_true hg41]; (repeat intro (_ : _ ≤ lim))
          refine SemF.reg true rfl ?_
          try simp only [gE, ↓gT, ↓reduceIte, reduceCtorEq, reduceAdd, reduceEqDiff, reduceLeDiff, reduceLT, eq_true hc23, eq_true hc24, eq_false hc26, eq_false hc27, eq_true hg35, eq_true hg37, eq_true hg39, eq_true hg41]; (repeat intro (_ : _ ≤ lim))
          refine SemF.reg true rfl ?_
          try simp only [gE, ↓gT, ↓reduceIte, reduceCtorEq, reduceAdd, reduceEqDiff, reduceLeDiff, reduceLT, eq_true hc23, eq_true hc24, eq_false hc26, eq_false hc27, eq_true hg35, eq_true hg37, eq_true hg39, eq_true hg41]; (repeat intro (_ : _ ≤ lim))
          obtain ⟨r43, h_r43, h⟩ := bs h
          refine HCp.callE (K.spec_l1Skip (p0, (IntKind.i64.wrap (t8_L0 + r25.1))) r43 h_r43) (by simp only [gE, ↓gT, ↓reduceIte, reduceCtorEq, reduceAdd, reduceEqDiff, reduceLeDiff, reduceLT, eq_true hc23, eq_true hc24, eq_false hc26, eq_false hc27, eq_true hg35, eq_true hg37, eq_true hg39, eq_true hg41]) (by simp only [scT, esT, and_self, true_and, and_true]) (by simp only [scT, esT, and_self, true_and, and_true]) ?_
          try simp only [gE, ↓gT, ↓reduceIte, reduceCtorEq, reduceAdd, reduceEqDiff, reduceLeDiff, reduceLT, eq_true hc23, eq_true hc24, eq_false hc26, eq_false hc27, eq_true hg35, eq_true hg37, eq_true hg39, eq_true hg41]; (repeat intro (_ : _ ≤ lim))
          refine SemL.weak (sel := [0]) ⟨by simp only [gE, ↓gT, ↓reduceIte, reduceCtorEq, reduceAdd, reduceEqDiff, reduceLeDiff, reduceLT, hwT, selS, erT, eq_true hc23, eq_true hc24, eq_false hc26, eq_false hc27, eq_true hg35, eq_true hg37, eq_true hg39, eq_true hg41], by decide, by decide, by simp only [gE, ↓gT, ↓reduceIte, reduceCtorEq, reduceAdd, reduceEqDiff, reduceLeDiff, reduceLT, hwT, selS, erT, subR, eq_true hc23, eq_true hc24, eq_false hc26, eq_false hc27, eq_true hg35, eq_true hg37, eq_true hg39, eq_true hg41], by simp only [gE, ↓gT, ↓reduceIte, reduceCtorEq, reduceAdd, reduceEqDiff, reduceLeDiff, reduceLT, hwT, selS, erT, scT, esT, eq_true hc23, eq_true hc24, eq_false hc26, eq_false hc27, eq_true hg35, eq_true hg37, eq_true hg39, eq_true hg41], by simp only [gE, ↓gT, ↓reduceIte, reduceCtorEq, reduceAdd, reduceEqDiff, reduceLeDiff, reduceLT, hwT, selS, erT, scT, esT, eq_true hc23, eq_true hc24, eq_false hc26, eq_false hc27, eq_true hg35, eq_true hg37, eq_true hg39, eq_true hg41]⟩ (ih_spec_Lex_L0 (p0, (t4_L0 ++ [(Tok.mk r25.2 (p0.extract t8_L0.toNat (IntKind.i64.wrap (t8_L0 + r25.1)).toNat) s34.1 (IntKind.i64.wrap ((IntKind.i64.wrap (t8_L0 - s34.2)) + 1)))]), s34.1, s34.2, t8_L0, r43) out h Q hx hr)
    · rw [if_neg hc24] at h
      refine SemF.cond rfl ?_
      simp only [gE, ↓gT, ↓reduceIte, reduceCtorEq, reduceAdd, reduceEqDiff, reduceLeDiff, reduceLT, eq_true hc23, eq_false hc24]
      refine SemF.exit rfl ?_
      simp only [gE, ↓gT, ↓reduceIte, reduceCtorEq, reduceAdd, reduceEqDiff, reduceLeDiff, reduceLT, eq_true hc23, eq_false hc24]
      obtain rfl := Option.some.inj h
      refine hx _ rfl _ _ [0] ⟨by simp only [gE, ↓gT, ↓reduceIte, reduceCtorEq, reduceAdd, reduceEqDiff, reduceLeDiff, reduceLT, hwT, selS, erT, eq_true hc23, eq_false hc24], by decide, by decide, by simp only [gE, ↓gT, ↓reduceIte, reduceCtorEq, reduceAdd, reduceEqDiff, reduceLeDiff, reduceLT, hwT, selS, erT, subR, eq_true hc23, eq_false hc24], by simp only [gE, ↓gT, ↓reduceIte, reduceCtorEq, reduceAdd, reduceEqDiff, reduceLeDiff, reduceLT, hwT, selS, erT, scT, esT, eq_true hc23, eq_false hc24], by simp only [gE, ↓gT, ↓reduceIte, reduceCtorEq, reduceAdd, reduceEqDiff, reduceLeDiff, reduceLT, hwT, selS, erT, scT, esT, eq_true hc23, eq_false hc24]⟩
  · rw [if_neg hc23] at h
    try simp only [gE, ↓gT, ↓reduceIte, reduceCtorEq, reduceAdd, reduceEqDiff, reduceLeDiff, reduceLT, eq_false hc23]; (repeat intro (_ : _ ≤ lim))
    refine SemF.cond rfl ?_
    simp only [gE, ↓gT, ↓reduceIte, reduceCtorEq, reduceAdd, reduceEqDiff, reduceLeDiff, reduceLT, eq_false hc23]
    refine SemF.exit rfl ?_
    simp only [gE, ↓gT, ↓reduceIte, reduceCtorEq, reduceAdd, reduceEqDiff, reduceLeDiff, reduceLT, eq_false hc23]
    obtain rfl := Option.some.inj h
    refine hx _ rfl _ _ [0] ⟨by simp only [gE, ↓gT, ↓reduceIte, reduceCtorEq, reduceAdd, reduceEqDiff, reduceLeDiff, reduceLT, hwT, selS, erT, eq_false hc23], by decide, by decide, by simp only [gE, ↓gT, ↓reduceIte, reduceCtorEq, reduceAdd, reduceEqDiff, reduceLeDiff, reduceLT, hwT, selS, erT, subR, eq_false hc23], by simp only [gE, ↓gT, ↓reduceIte, reduceCtorEq, reduceAdd, reduceEqDiff, reduceLeDiff, reduceLT, hwT, selS, erT, scT, esT, eq_false hc23], by simp only [gE, ↓gT, ↓reduceIte, reduceCtorEq, reduceAdd, reduceEqDiff, reduceLeDiff, reduceLT, hwT, selS, erT, scT, esT, eq_false hc23]⟩
theorem spec_Lex : ∀ (x : ByteArray) (r : ((List Tok) × Bool)), M.spec_Lex x = some r → HCp P F.spec_Lex [(.str x)] (HV.tup [(HV.sl (List.map Tok.enc r.1)), (HV.bool r.2)]) := by
  intro x r h
  revert h; revert x; intro p0 h
  unfold M.spec_Lex at h
  try dsimp only at h
  refine HCp.mkF S.spec_Lex (by simp [H.spec_Lex]) (by simp only [scT, esT, and_self, true_and, and_true]) ?_
  simp only [gE, ↓gT, ↓reduceIte, reduceCtorEq, reduceAdd, reduceEqDiff, reduceLeDiff, reduceLT, H.spec_Lex]
  refine SemF.seq rfl ?_
  refine SemF.reg true rfl ?_
  try simp only [gE, ↓gT, ↓reduceIte, reduceCtorEq, reduceAdd, reduceEqDiff, reduceLeDiff, reduceLT]; (repeat intro (_ : _ ≤ lim))
  refine SemF.seq rfl ?_
  refine SemF.reg true rfl ?_
  try simp only [gE, ↓gT, ↓reduceIte, reduceCtorEq, reduceAdd, reduceEqDiff, reduceLeDiff, reduceLT]; (repeat intro (_ : _ ≤ lim))
  refine SemF.seq rfl ?_
  refine SemF.reg true rfl ?_
  try simp only [gE, ↓gT, ↓reduceIte, reduceCtorEq, reduceAdd, reduceEqDiff, reduceLeDiff, reduceLT]; (repeat intro (_ : _ ≤ lim))
  refine SemF.seq rfl ?_
  refine SemF.reg true rfl ?_
  try simp only [gE, ↓gT, ↓reduceIte, reduceCtorEq, reduceAdd, reduceEqDiff, reduceLeDiff, reduceLT]; (repeat intro (_ : _ ≤ lim))
  refine SemF.seq rfl ?_
  refine SemF.reg true rfl ?_
  try simp only [gE, ↓gT, ↓reduceIte, reduceCtorEq, reduceAdd, reduceEqDiff, reduceLeDiff, reduceLT]; (repeat intro (_ : _ ≤ lim))
  refine SemF.seq rfl ?_
  refine SemF.seq rfl ?_
  refine SemF.reg true rfl ?_
  try simp only [gE, ↓gT, ↓reduceIte, reduceCtorEq, reduceAdd, reduceEqDiff, reduceLeDiff, reduceLT]; (repeat intro (_ : _ ≤ lim))
  obtain ⟨r1, h_r1, h⟩ := bs h
  refine HCp.callE (K.spec_l1Skip (p0, 0) r1 h_r1) (by simp only [gE, ↓gT, ↓reduceIte, reduceCtorEq, reduceAdd, reduceEqDiff, reduceLeDiff, reduceLT]) (by simp only [scT, esT, and_self, true_and, and_true]) (by simp only [scT, esT, and_self, true_and, and_true]) ?_
  try simp only [gE, ↓gT, ↓reduceIte, reduceCtorEq, reduceAdd, reduceEqDiff, reduceLeDiff, reduceLT]; (repeat intro (_ : _ ≤ lim))
  refine SemF.block rfl ?_
  obtain ⟨s44, h_s44, h⟩ := bs h
  rcases s44 with r45 | v46
  · dsimp only at h
    refine SemF.loop rfl ?_
    refine SemL.weak (sel := [0]) ⟨by simp only [gE, ↓gT, ↓reduceIte, reduceCtorEq, reduceAdd, reduceEqDiff, reduceLeDiff, reduceLT, hwT, selS, erT], by decide, by decide, by simp only [gE, ↓gT, ↓reduceIte, reduceCtorEq, reduceAdd, reduceEqDiff, reduceLeDiff, reduceLT, hwT, selS, erT, subR], by simp only [gE, ↓gT, ↓reduceIte, reduceCtorEq, reduceAdd, reduceEqDiff, reduceLeDiff, reduceLT, hwT, selS, erT, scT, esT], by simp only [gE, ↓gT, ↓reduceIte, reduceCtorEq, reduceAdd, reduceEqDiff, reduceLeDiff, reduceLT, hwT, selS, erT, scT, esT]⟩ (K.spec_Lex_L0 (p0, [], 1, 0, 0, r1) (.inl r45) h_s44 _ ?_ ?_)
    · intro v hv; cases hv
    · intro r' hr' env st hy
      cases hr'
      simp only [gE, ↓gT, ↓reduceIte, reduceCtorEq, reduceAdd, reduceEqDiff, reduceLeDiff, reduceLT]
      obtain rfl := Option.some.inj h
      exact hy
  · dsimp only at h
    refine SemF.loop rfl ?_
    refine SemL.weak (sel := [0]) ⟨by simp only [gE, ↓gT, ↓reduceIte, reduceCtorEq, reduceAdd, reduceEqDiff, reduceLeDiff, reduceLT, hwT, selS, erT], by decide, by decide, by simp only [gE, ↓gT, ↓reduceIte, reduceCtorEq, reduceAdd, reduceEqDiff, reduceLeDiff, reduceLT, hwT, selS, erT, subR], by simp only [gE, ↓gT, ↓reduceIte, reduceCtorEq, reduceAdd, reduceEqDiff, reduceLeDiff, reduceLT, hwT, selS, erT, scT, esT], by simp only [gE, ↓gT, ↓reduceIte, reduceCtorEq, reduceAdd, reduceEqDiff, reduceLeDiff, reduceLT, hwT, selS, erT, scT, esT]⟩ (K.spec_Lex_L0 (p0, [], 1, 0, 0, r1) (.inr v46) h_s44 _ ?_ ?_)
    rotate_left
    · intro r' hr'; cases hr'
    intro v hv env st sel hw
    cases hv
    simp only [gE, ↓gT, ↓reduceIte, reduceCtorEq, reduceAdd, reduceEqDiff, reduceLeDiff, reduceLT]
    first | refine SemF.weak hw ?_ | refine SemL.weak hw ?_
    refine SemF.seq rfl ?_
    refine SemF.seq rfl ?_
    refine SemF.reg true rfl ?_
    try simp only [gE, ↓gT, ↓reduceIte, reduceCtorEq, reduceAdd, reduceEqDiff, reduceLeDiff, reduceLT]; (repeat intro (_ : _ ≤ lim))
    (repeat intro (_ : _ ≤ lim))
    by_cases hc47 : 1500 < ((p0.size : Nat) : Int)
    · rw [if_pos hc47] at h
      try simp only [gE, ↓gT, ↓reduceIte, reduceCtorEq, reduceAdd, reduceEqDiff, reduceLeDiff, reduceLT, eq_true hc47]; (repeat intro (_ : _ ≤ lim))
      refine SemF.cond rfl ?_
      simp only [gE, ↓gT, ↓reduceIte, reduceCtorEq, reduceAdd, reduceEqDiff, reduceLeDiff, reduceLT, eq_true hc47]
      refine SemF.seq rfl ?_
      refine SemF.reg true rfl ?_
      try simp only [gE, ↓gT, ↓reduceIte, reduceCtorEq, reduceAdd, reduceEqDiff, reduceLeDiff, reduceLT, eq_true hc47]; (repeat intro (_ : _ ≤ lim))
      refine SemF.ret rfl ?_
      try simp only [gE, ↓gT, ↓reduceIte, reduceCtorEq, reduceAdd, reduceEqDiff, reduceLeDiff, reduceLT, eq_true hc47]; (repeat intro (_ : _ ≤ lim))
      obtain rfl := Option.some.inj h
      simp only [gE, ↓gT, ↓reduceIte, reduceCtorEq, reduceAdd, reduceEqDiff, reduceLeDiff, reduceLT, RetP_def, eq_true hc47]
    · rw [if_neg hc47] at h
      try simp only [gE, ↓gT, ↓reduceIte, reduceCtorEq, reduceAdd, reduceEqDiff, reduceLeDiff, reduceLT, eq_false hc47]; (repeat intro (_ : _ ≤ lim))
      (repeat intro (_ : _ ≤ lim))
      by_cases hc48 : 400 ≤ ((v46.length : Nat) : Int)
      · rw [if_pos hc48] at h
        refine SemF.cond rfl ?_
        simp only [gE, ↓gT, ↓reduceIte, reduceCtorEq, reduceAdd, reduceEqDiff, reduceLeDiff, reduceLT, eq_false hc47, eq_true hc48]
        refine SemF.seq rfl ?_
        refine SemF.reg true rfl ?_
        try simp only [gE, ↓gT, ↓reduceIte, reduceCtorEq, reduceAdd, reduceEqDiff, reduceLeDiff, reduceLT, eq_false hc47, eq_true hc48]; (repeat intro (_ : _ ≤ lim))
        refine SemF.ret rfl ?_
        try simp only [gE, ↓gT, ↓reduceIte, reduceCtorEq, reduceAdd, reduceEqDiff, reduceLeDiff, reduceLT, eq_false hc47, eq_true hc48]; (repeat intro (_ : _ ≤ lim))
        obtain rfl := Option.some.inj h
        simp only [gE, ↓gT, ↓reduceIte, reduceCtorEq, reduceAdd, reduceEqDiff, reduceLeDiff, reduceLT, RetP_def, eq_false hc47, eq_true hc48]
      · rw [if_neg hc48] at h
        refine SemF.cond rfl ?_
        simp only [gE, ↓gT, ↓reduceIte, reduceCtorEq, reduceAdd, reduceEqDiff, reduceLeDiff, reduceLT, eq_false hc47, eq_false hc48]
        refine SemF.skip rfl ?_
        simp only [gE, ↓gT, ↓reduceIte, reduceCtorEq, reduceAdd, reduceEqDiff, reduceLeDiff, reduceLT, eq_false hc47, eq_false hc48]
        refine SemF.seq rfl ?_
        refine SemF.reg true rfl ?_
        try simp only [gE, ↓gT, ↓reduceIte, reduceCtorEq, reduceAdd, reduceEqDiff, reduceLeDiff, reduceLT, eq_false hc47, eq_false hc48]; (repeat intro (_ : _ ≤ lim))
        (repeat intro (_ : _ ≤ lim))
        obtain ⟨r49, h_r49, h⟩ := bs h
        refine HCp.callE (K.spec_l1Place (p0, ((p0.size : Nat) : Int)) r49 h_r49) (by simp only [gE, ↓gT, ↓reduceIte, reduceCtorEq, reduceAdd, reduceEqDiff, reduceLeDiff, reduceLT, eq_false hc47, eq_false hc48]) (by simp only [scT, esT, and_self, true_and, and_true]) (by simp only [scT, esT, and_self, true_and, and_true]) ?_
        try simp only [gE, ↓gT, ↓reduceIte, reduceCtorEq, reduceAdd, reduceEqDiff, reduceLeDiff, reduceLT, eq_false hc47, eq_false hc48]; (repeat intro (_ : _ ≤ lim))
        refine SemF.seq rfl ?_
        refine SemF.reg true rfl ?_
        try simp only [gE, ↓gT, ↓reduceIte, reduceCtorEq, reduceAdd, reduceEqDiff, reduceLeDiff, reduceLT, eq_false hc47, eq_false hc48]; (repeat intro (_ : _ ≤ lim))
        obtain ⟨u51, h_u51, h⟩ := bs h
        have hg50 := gd_some h_u51
        try simp only [gE, ↓gT, ↓reduceIte, reduceCtorEq, reduceAdd, reduceEqDiff, reduceLeDiff, reduceLT, eq_false hc47, eq_false hc48, eq_true hg50]; (repeat intro (_ : _ ≤ lim))
        refine SemF.ret rfl ?_
        try simp only [gE, ↓gT, ↓reduceIte, reduceCtorEq, reduceAdd, reduceEqDiff, reduceLeDiff, reduceLT, eq_false hc47, eq_false hc48, eq_true hg50]; (repeat intro (_ : _ ≤ lim))
        obtain rfl := Option.some.inj h
        simp only [gE, ↓gT, ↓reduceIte, reduceCtorEq, reduceAdd, reduceEqDiff, reduceLeDiff, reduceLT, RetP_def, eq_false hc47, eq_false hc48, eq_true hg50]
end K
end W
