import Derived.Test.YtnhdobhfebiggaaLPrf5
namespace W
set_option linter.unusedSimpArgs false
set_option linter.unusedVariables false
open Go HL S
open Nat (reduceAdd reduceEqDiff reduceLeDiff reduceSub reduceMul reduceLT)
set_option linter.unusedVariables false
set_option maxRecDepth 100000
set_option maxHeartbeats 4000000
namespace K
theorem spec_l1Skip_L0 : ∀ (x : (ByteArray × Int)) (out : (Sum Int Int)), M.spec_l1Skip_L0 x = some out → ∀ Q : HExit → Env → St → Prop, (∀ v, out = .inr v → ∀ env st sel, Weak 0 sel [(1, (.int .i64 v))] [] env st → Q (.exit 0) env st) → (∀ r, out = .inl r → ∀ env st, RetP [(4, none)] (HV.int .i64 r) env st → Q .ret env st) → SemL P H.spec_l1Skip.ntmps 0 H.spec_l1Skip_l3 [(0, (.str x.1)), (1, (.int .i64 x.2))] [] Q := by
  refine M.spec_l1Skip_L0.partial_correctness (motive := fun x out => ∀ Q : HExit → Env → St → Prop, (∀ v, out = .inr v → ∀ env st sel, Weak 0 sel [(1, (.int .i64 v))] [] env st → Q (.exit 0) env st) → (∀ r, out = .inl r → ∀ env st, RetP [(4, none)] (HV.int .i64 r) env st → Q .ret env st) → SemL P H.spec_l1Skip.ntmps 0 H.spec_l1Skip_l3 [(0, (.str x.1)), (1, (.int .i64 x.2))] [] Q) ?_
  intro f_spec_l1Skip_L0 ih_spec_l1Skip_L0 x out h
  obtain ⟨p0, t1_L0⟩ := x
  try dsimp only at h
  intro Q hx hr
  refine SemL.round ?_
  try dsimp only at hx
  refine SemF.seq rfl ?_
  refine SemF.seq rfl ?_
  refine SemF.reg true rfl ?_
  try simp only [gE, ↓gT, ↓reduceIte, reduceCtorEq, reduceAdd, reduceEqDiff, reduceLeDiff, reduceLT]; (repeat intro (_ : _ ≤ lim))
  (repeat intro (_ : _ ≤ lim))
  by_cases hc21 : t1_L0 < ((p0.size : Nat) : Int)
  · rw [if_pos hc21] at h
    refine SemF.cond rfl ?_
    simp only [gE, ↓gT, ↓reduceIte, reduceCtorEq, reduceAdd, reduceEqDiff, reduceLeDiff, reduceLT, eq_true hc21]
    refine SemF.skip rfl ?_
    simp only [gE, ↓gT, ↓reduceIte, reduceCtorEq, reduceAdd, reduceEqDiff, reduceLeDiff, reduceLT, eq_true hc21]
    refine SemF.block rfl ?_
    refine SemF.seq rfl ?_
    refine SemF.seq rfl ?_
    refine SemF.reg true rfl ?_
    try simp only [gE, ↓gT, ↓reduceIte, reduceCtorEq, reduceAdd, reduceEqDiff, reduceLeDiff, reduceLT, eq_true hc21]; (repeat intro (_ : _ ≤ lim))
    (repeat intro (_ : _ ≤ lim))
    by_cases hc22 : (IntKind.i64.wrap (t1_L0 + 2)) ≤ ((p0.size : Nat) : Int)
    · rw [if_pos hc22] at h
      try simp only [gE, ↓gT, ↓reduceIte, reduceCtorEq, reduceAdd, reduceEqDiff, reduceLeDiff, reduceLT, eq_true hc21, eq_true hc22]; (repeat intro (_ : _ ≤ lim))
      obtain ⟨u24, h_u24, h⟩ := bs h
      have hg23 := gd_some h_u24
      try simp only [gE, ↓gT, ↓reduceIte, reduceCtorEq, reduceAdd, reduceEqDiff, reduceLeDiff, reduceLT, eq_true hc21, eq_true hc22, eq_true hg23]; (repeat intro (_ : _ ≤ lim))
      obtain ⟨u26, h_u26, h⟩ := bs h
      have hg25 := gd_some h_u26
      try simp only [gE, ↓gT, ↓reduceIte, reduceCtorEq, reduceAdd, reduceEqDiff, reduceLeDiff, reduceLT, eq_true hc21, eq_true hc22, eq_true hg23, eq_true hg25]; (repeat intro (_ : _ ≤ lim))
      by_cases hc27 : (p0.extract t1_L0.toNat (IntKind.i64.wrap (t1_L0 + 2)).toNat) = (⟨⟨[45, 45]⟩⟩ : ByteArray)
      · rw [if_pos hc27] at h
        refine SemF.cond rfl ?_
        simp only [gE, ↓gT, ↓reduceIte, reduceCtorEq, reduceAdd, reduceEqDiff, reduceLeDiff, reduceLT, eq_true hc21, eq_true hc22, eq_true hg23, eq_true hg25, eq_true hc27]
        refine SemF.seq rfl ?_
        refine SemF.block rfl ?_
        obtain ⟨s34, h_s34, h⟩ := bs h
        refine SemF.loop rfl ?_
        refine SemL.weak (sel := []) ⟨by simp only [gE, ↓gT, ↓reduceIte, reduceCtorEq, reduceAdd, reduceEqDiff, reduceLeDiff, reduceLT, hwT, selS, erT, eq_true hc21, eq_true hc22, eq_true hg23, eq_true hg25, eq_true hc27], by decide, by decide, by simp only [gE, ↓gT, ↓reduceIte, reduceCtorEq, reduceAdd, reduceEqDiff, reduceLeDiff, reduceLT, hwT, selS, erT, subR, eq_true hc21, eq_true hc22, eq_true hg23, eq_true hg25, eq_true hc27], by simp only [gE, ↓gT, ↓reduceIte, reduceCtorEq, reduceAdd, reduceEqDiff, reduceLeDiff, reduceLT, hwT, selS, erT, scT, esT, eq_true hc21, eq_true hc22, eq_true hg23, eq_true hg25, eq_true hc27], by simp only [gE, ↓gT, ↓reduceIte, reduceCtorEq, reduceAdd, reduceEqDiff, reduceLeDiff, reduceLT, hwT, selS, erT, scT, esT, eq_true hc21, eq_true hc22, eq_true hg23, eq_true hg25, eq_true hc27]⟩ (K.spec_l1Skip_L1 (p0, t1_L0) s34 h_s34 _ ?_)
        intro env st sel hw
        simp only [gE, ↓gT, ↓reduceIte, reduceCtorEq, reduceAdd, reduceEqDiff, reduceLeDiff, reduceLT]
        first | refine SemF.weak hw ?_ | refine SemL.weak hw ?_
        refine SemF.exit rfl ?_
        simp only [gE, ↓gT, ↓reduceIte, reduceCtorEq, reduceAdd, reduceEqDiff, reduceLeDiff, reduceLT, eq_true hc21, eq_true hc22, eq_true hg23, eq_true hg25, eq_true hc27]
        refine SemL.weak (sel := []) ⟨by simp only [gE, ↓gT, ↓reduceIte, reduceCtorEq, reduceAdd, reduceEqDiff, reduceLeDiff, reduceLT, hwT, selS, erT, eq_true hc21, eq_true hc22, eq_true hg23, eq_true hg25, eq_true hc27], by decide, by decide, by simp only [gE, ↓gT, ↓reduceIte, reduceCtorEq, reduceAdd, reduceEqDiff, reduceLeDiff, reduceLT, hwT, selS, erT, subR, eq_true hc21, eq_true hc22, eq_true hg23, eq_true hg25, eq_true hc27], by simp only [gE, ↓gT, ↓reduceIte, reduceCtorEq, reduceAdd, reduceEqDiff, reduceLeDiff, reduceLT, hwT, selS, erT, scT, esT, eq_true hc21, eq_true hc22, eq_true hg23, eq_true hg25, eq_true hc27], by simp only [gE, ↓gT, ↓reduceIte, reduceCtorEq, reduceAdd, reduceEqDiff, reduceLeDiff, reduceLT, hwT, selS, erT, scT, esT, eq_true hc21, eq_true hc22, eq_true hg23, eq_true hg25, eq_true hc27]⟩ (ih_spec_l1Skip_L0 (p0, s34) out h Q hx hr)
      · rw [if_neg hc27] at h
        refine SemF.cond rfl ?_
        simp only [gE, ↓gT, ↓reduceIte, reduceCtorEq, reduceAdd, reduceEqDiff, reduceLeDiff, reduceLT, eq_true hc21, eq_true hc22, eq_true hg23, eq_true hg25, eq_false hc27]
        refine SemF.skip rfl ?_
        simp only [gE, ↓gT, ↓reduceIte, reduceCtorEq, reduceAdd, reduceEqDiff, reduceLeDiff, reduceLT, eq_true hc21, eq_true hc22, eq_true hg23, eq_true hg25, eq_false hc27]
        refine SemF.seq rfl ?_
        refine SemF.seq rfl ?_
        refine SemF.reg true rfl ?_
        try simp only [gE, ↓gT, ↓reduceIte, reduceCtorEq, reduceAdd, reduceEqDiff, reduceLeDiff, reduceLT, eq_true hc21, eq_true hc22, eq_true hg23, eq_true hg25, eq_false hc27]; (repeat intro (_ : _ ≤ lim))
        obtain ⟨c35, h_c35, h⟩ := bs h
        obtain ⟨c_c35, m_c35, v_c35⟩ := bx_get h_c35
        try simp only [gE, ↓gT, ↓reduceIte, reduceCtorEq, reduceAdd, reduceEqDiff, reduceLeDiff, reduceLT, eq_true hc21, eq_true hc22, eq_true hg23, eq_true hg25, eq_false hc27, eq_true (bx_nn h_c35), m_c35, v_c35]; (repeat intro (_ : _ ≤ lim))
        by_cases hc36 : c35 = 32
        · rw [if_pos hc36] at h
          try simp only [gE, ↓gT, ↓reduceIte, reduceCtorEq, reduceAdd, reduceEqDiff, reduceLeDiff, reduceLT, eq_true hc21, eq_true hc22, eq_true hg23, eq_true hg25, eq_false hc27, eq_true (bx_nn h_c35), m_c35, v_c35, eq_true hc36]; (repeat intro (_ : _ ≤ lim))
          refine SemF.cond rfl ?_
          simp only [gE, ↓gT, ↓reduceIte, reduceCtorEq, reduceAdd, reduceEqDiff, reduceLeDiff, reduceLT, eq_true hc21, eq_true hc22, eq_true hg23, eq_true hg25, eq_false hc27, eq_true (bx_nn h_c35), m_c35, v_c35, eq_true hc36]
          refine SemF.skip rfl ?_
          simp only [gE, ↓gT, ↓reduceIte, reduceCtorEq, reduceAdd, reduceEqDiff, reduceLeDiff, reduceLT, eq_true hc21, eq_true hc22, eq_true hg23, eq_true hg25, eq_false hc27, eq_true (bx_nn h_c35), m_c35, v_c35, eq_true hc36]
          refine SemF.reg true rfl ?_
          try simp only [gE, ↓gT, ↓reduceIte, reduceCtorEq, reduceAdd, reduceEqDiff, reduceLeDiff, reduceLT, eq_true hc21, eq_true hc22, eq_true hg23, eq_true hg25, eq_false hc27, eq_true (bx_nn h_c35), m_c35, v_c35, eq_true hc36]; (repeat intro (_ : _ ≤ lim))
          refine SemL.weak (sel := []) ⟨by simp only [gE, ↓gT, ↓reduceIte, reduceCtorEq, reduceAdd, reduceEqDiff, reduceLeDiff, reduceLT, hwT, selS, erT, eq_true hc21, eq_true hc22, eq_true hg23, eq_true hg25, eq_false hc27, eq_true (bx_nn h_c35), m_c35, v_c35, eq_true hc36], by decide, by decide, by simp only [gE, ↓gT, ↓reduceIte, reduceCtorEq, reduceAdd, reduceEqDiff, reduceLeDiff, reduceLT, hwT, selS, erT, subR, eq_true hc21, eq_true hc22, eq_true hg23, eq_true hg25, eq_false hc27, eq_true (bx_nn h_c35), m_c35, v_c35, eq_true hc36], by simp only [gE, ↓gT, ↓reduceIte, reduceCtorEq, reduceAdd, reduceEqDiff, reduceLeDiff, reduceLT, hwT, selS, erT, scT, esT, eq_true hc21, eq_true hc22, eq_true hg23, eq_true hg25, eq_false hc27, eq_true (bx_nn h_c35), m_c35, v_c35, eq_true hc36], by simp only [gE, ↓gT, ↓reduceIte, reduceCtorEq, reduceAdd, reduceEqDiff, reduceLeDiff, reduceLT, hwT, selS, erT, scT, esT, eq_true hc21, eq_true hc22, eq_true hg23, eq_true hg25, eq_false hc27, eq_true (bx_nn h_c35), m_c35, v_c35, eq_true hc36]⟩ (ih_spec_l1Skip_L0 (p0, (IntKind.i64.wrap (t1_L0 + 1))) out h Q hx hr)
        · rw [if_neg hc36] at h
          try simp only [gE, ↓gT, ↓reduceIte, reduceCtorEq, reduceAdd, reduceEqDiff, reduceLeDiff, reduceLT, eq_true hc21, eq_true hc22, eq_true hg23, eq_true hg25, eq_false hc27, eq_true (bx_nn h_c35), m_c35, v_c35, eq_false hc36]; (repeat intro (_ : _ ≤ lim))
          by_cases hc37 : c35 = 10
          · rw [if_pos hc37] at h
            refine SemF.cond rfl ?_
            simp only [gE, ↓gT, ↓reduceIte, reduceCtorEq, reduceAdd, reduceEqDiff, reduceLeDiff, reduceLT, eq_true hc21, eq_true hc22, eq_true hg23, eq_true hg25, eq_false hc27, eq_true (bx_nn h_c35), m_c35, v_c35, eq_false hc36, eq_true hc37]
            refine SemF.skip rfl ?_
            simp only [gE, ↓gT, ↓reduceIte, reduceCtorEq, reduceAdd, reduceEqDiff, reduceLeDiff, reduceLT, eq_true hc21, eq_true hc22, eq_true hg23, eq_true hg25, eq_false hc27, eq_true (bx_nn h_c35), m_c35, v_c35, eq_false hc36, eq_true hc37]
            refine SemF.reg true rfl ?_
            try simp only [gE, ↓gT, ↓reduceIte, reduceCtorEq, reduceAdd, reduceEqDiff, reduceLeDiff, reduceLT, eq_true hc21, eq_true hc22, eq_true hg23, eq_true hg25, eq_false hc27, eq_true (bx_nn h_c35), m_c35, v_c35, eq_false hc36, eq_true hc37]; (repeat intro (_ : _ ≤ lim))
            refine SemL.weak (sel := []) ⟨by simp only [gE, ↓gT, ↓reduceIte, reduceCtorEq, reduceAdd, reduceEqDiff, reduceLeDiff, reduceLT, hwT, selS, erT, eq_true hc21, eq_true hc22, eq_true hg23, eq_true hg25, eq_false hc27, eq_true (bx_nn h_c35), m_c35, v_c35, eq_false hc36, eq_true hc37], by decide, by decide, by simp only [gE, ↓gT, ↓reduceIte, reduceCtorEq, reduceAdd, reduceEqDiff, reduceLeDiff, reduceLT, hwT, selS, erT, subR, eq_true hc21, eq_true hc22, eq_true hg23, eq_true hg25, eq_false hc27, eq_true (bx_nn h_c35), m_c35, v_c35, eq_false hc36, eq_true hc37], by simp only [gE, ↓gT, ↓reduceIte, reduceCtorEq, reduceAdd, reduceEqDiff, reduceLeDiff, reduceLT, hwT, selS, erT, scT, esT, eq_true hc21, eq_true hc22, eq_true hg23, eq_true hg25, eq_false hc27, eq_true (bx_nn h_c35), m_c35, v_c35, eq_false hc36, eq_true hc37], by simp only [gE, ↓gT, ↓reduceIte, reduceCtorEq, reduceAdd, reduceEqDiff, reduceLeDiff, reduceLT, hwT, selS, erT, scT, esT, eq_true hc21, eq_true hc22, eq_true hg23, eq_true hg25, eq_false hc27, eq_true (bx_nn h_c35), m_c35, v_c35, eq_false hc36, eq_true hc37]⟩ (ih_spec_l1Skip_L0 (p0, (IntKind.i64.wrap (t1_L0 + 1))) out h Q hx hr)
          · rw [if_neg hc37] at h
            refine SemF.cond rfl ?_
            simp only [gE, ↓gT, ↓reduceIte, reduceCtorEq, reduceAdd, reduceEqDiff, reduceLeDiff, reduceLT, eq_true hc21, eq_true hc22, eq_true hg23, eq_true hg25, eq_false hc27, eq_true (bx_nn h_c35), m_c35, v_c35, eq_false hc36, eq_false hc37]
            refine SemF.seq rfl ?_
            refine SemF.reg true rfl ?_
            try simp only [gE, ↓gT, ↓reduceIte, reduceCtorEq, reduceAdd, reduceEqDiff, reduceLeDiff, reduceLT, eq_true hc21, eq_true hc22, eq_true hg23, eq_true hg25, eq_false hc27, eq_true (bx_nn h_c35), m_c35, v_c35, eq_false hc36, eq_false hc37]; (repeat intro (_ : _ ≤ lim))
            refine SemF.ret rfl ?_
            try simp only [gE, ↓gT, ↓reduceIte, reduceCtorEq, reduceAdd, reduceEqDiff, reduceLeDiff, reduceLT, eq_true hc21, eq_true hc22, eq_true hg23, eq_true hg25, eq_false hc27, eq_true (bx_nn h_c35), m_c35, v_c35, eq_false hc36, eq_false hc37]; (repeat intro (_ : _ ≤ lim))
            obtain rfl := Option.some.inj h
            refine hr _ rfl _ _ ?_
            simp only [gE, ↓gT, ↓reduceIte, reduceCtorEq, reduceAdd, reduceEqDiff, reduceLeDiff, reduceLT, RetP_def, eq_true hc21, eq_true hc22, eq_true hg23, eq_true hg25, eq_false hc27, eq_true (bx_nn h_c35), m_c35, v_c35, eq_false hc36, eq_false hc37]
    · rw [if_neg hc22] at h
      try simp only [gE, ↓gT, ↓reduceIte, reduceCtorEq, reduceAdd, reduceEqDiff, reduceLeDiff, reduceLT, eq_true hc21, eq_false hc22]; (repeat intro (_ : _ ≤ lim))
      refine SemF.cond rfl ?_
      simp only [gE, ↓gT, ↓reduceIte, reduceCtorEq, reduceAdd, reduceEqDiff, reduceLeDiff, reduceLT, eq_true hc21, eq_false hc22]
      refine SemF.skip rfl ?_
      simp only [gE, ↓gT, ↓reduceIte, reduceCtorEq, reduceAdd, reduceEqDiff, reduceLeDiff, reduceLT, eq_true hc21, eq_false hc22]
      refine SemF.seq rfl ?_
      refine SemF.seq rfl ?_
      refine SemF.reg true rfl ?_
      try simp only [gE, ↓gT, ↓reduceIte, reduceCtorEq, reduceAdd, reduceEqDiff, reduceLeDiff, reduceLT, eq_true hc21, eq_false hc22]; (repeat intro (_ : _ ≤ lim))
      obtain ⟨c38, h_c38, h⟩ := bs h
      obtain ⟨c_c38, m_c38, v_c38⟩ := bx_get h_c38
      try simp only [gE, ↓gT, ↓reduceIte, reduceCtorEq, reduceAdd, reduceEqDiff, reduceLeDiff, reduceLT, eq_true hc21, eq_false hc22, eq_true (bx_nn h_c38), m_c38, v_c38]; (repeat intro (_ : _ ≤ lim))
      by_cases hc39 : c38 = 32
      · rw [if_pos hc39] at h
        try simp only [gE, ↓gT, ↓reduceIte, reduceCtorEq, reduceAdd, reduceEqDiff, reduceLeDiff, reduceLT, eq_true hc21, eq_false hc22, eq_true (bx_nn h_c38), m_c38, v_c38, eq_true hc39]; (repeat intro (_ : _ ≤ lim))
        refine SemF.cond rfl ?_
        simp only [gE, ↓gT, ↓reduceIte, reduceCtorEq, reduceAdd, reduceEqDiff, reduceLeDiff, reduceLT, eq_true hc21, eq_false hc22, eq_true (bx_nn h_c38), m_c38, v_c38, eq_true hc39]
        refine SemF.skip rfl ?_
        simp only [gE, ↓gT, ↓reduceIte, reduceCtorEq, reduceAdd, reduceEqDiff, reduceLeDiff, reduceLT, eq_true hc21, eq_false hc22, eq_true (bx_nn h_c38), m_c38, v_c38, eq_true hc39]
        refine SemF.reg true rfl ?_
        try simp only [gE, ↓gT, ↓reduceIte, reduceCtorEq, reduceAdd, reduceEqDiff, reduceLeDiff, reduceLT, eq_true hc21, eq_false hc22, eq_true (bx_nn h_c38), m_c38, v_c38, eq_true hc39]; (repeat intro (_ : _ ≤ lim))
        refine SemL.weak (sel := []) ⟨by simp only [gE, ↓gT, ↓reduceIte, reduceCtorEq, reduceAdd, reduceEqDiff, reduceLeDiff, reduceLT, hwT, selS, erT, eq_true hc21, eq_false hc22, eq_true (bx_nn h_c38), m_c38, v_c38, eq_true hc39], by decide, by decide, by simp only [gE, ↓gT, ↓reduceIte, reduceCtorEq, reduceAdd, reduceEqDiff, reduceLeDiff, reduceLT, hwT, selS, erT, subR, eq_true hc21, eq_false hc22, eq_true (bx_nn h_c38), m_c38, v_c38, eq_true hc39], by simp only [gE, ↓gT, ↓reduceIte, reduceCtorEq, reduceAdd, reduceEqDiff, reduceLeDiff, reduceLT, hwT, selS, erT, scT, esT, eq_true hc21, eq_false hc22, eq_true (bx_nn h_c38), m_c38, v_c38, eq_true hc39], by simp only [gE, ↓gT, ↓reduceIte, reduceCtorEq, reduceAdd, reduceEqDiff, reduceLeDiff, reduceLT, hwT, selS, erT, scT, esT, eq_true hc21, eq_false hc22, eq_true (bx_nn h_c38), m_c38, v_c38, eq_true hc39]⟩ (ih_spec_l1Skip_L0 (p0, (IntKind.i64.wrap (t1_L0 + 1))) out h Q hx hr)
      · rw [if_neg hc39] at h
        try simp only [gE, ↓gT, ↓reduceIte, reduceCtorEq, reduceAdd, reduceEqDiff, reduceLeDiff, reduceLT, eq_true hc21, eq_false hc22, eq_true (bx_nn h_c38), m_c38, v_c38, eq_false hc39]; (repeat intro (_ : _ ≤ lim))
        by_cases hc40 : c38 = 10
        · rw [if_pos hc40] at h
          refine SemF.cond rfl ?_
          simp only [gE, ↓gT, ↓reduceIte, reduceCtorEq, reduceAdd, reduceEqDiff, reduceLeDiff, reduceLT, eq_true hc21, eq_false hc22, eq_true (bx_nn h_c38), m_c38, v_c38, eq_false hc39, eq_true hc40]
          refine SemF.skip rfl ?_
          simp only [gE, ↓gT, ↓reduceIte, reduceCtorEq, reduceAdd, reduceEqDiff, reduceLeDiff, reduceLT, eq_true hc21, eq_false hc22, eq_true (bx_nn h_c38), m_c38, v_c38, eq_false hc39, eq_true hc40]
          refine SemF.reg true rfl ?_
          try simp only [gE, ↓gT, ↓reduceIte, reduceCtorEq, reduceAdd, reduceEqDiff, reduceLeDiff, reduceLT, eq_true hc21, eq_false hc22, eq_true (bx_nn h_c38), m_c38, v_c38, eq_false hc39, eq_true hc40]; (repeat intro (_ : _ ≤ lim))
          refine SemL.weak (sel := []) ⟨by simp only [gE, ↓gT, ↓reduceIte, reduceCtorEq, reduceAdd, reduceEqDiff, reduceLeDiff, reduceLT, hwT, selS, erT, eq_true hc21, eq_false hc22, eq_true (bx_nn h_c38), m_c38, v_c38, eq_false hc39, eq_true hc40], by decide, by decide, by simp only [gE, ↓gT, ↓reduceIte, reduceCtorEq, reduceAdd, reduceEqDiff, reduceLeDiff, reduceLT, hwT, selS, erT, subR, eq_true hc21, eq_false hc22, eq_true (bx_nn h_c38), m_c38, v_c38, eq_false hc39, eq_true hc40], by simp only [gE, ↓gT, ↓reduceIte, reduceCtorEq, reduceAdd, reduceEqDiff, reduceLeDiff, reduceLT, hwT, selS, erT, scT, esT, eq_true hc21, eq_false hc22, eq_true (bx_nn h_c38), m_c38, v_c38, eq_false hc39, eq_true hc40], by simp only [gE, ↓gT, ↓reduceIte, reduceCtorEq, reduceAdd, reduceEqDiff, reduceLeDiff, reduceLT, hwT, selS, erT, scT, esT, eq_true hc21, eq_false hc22, eq_true (bx_nn h_c38), m_c38, v_c38, eq_false hc39, eq_true hc40]⟩ (ih_spec_l1Skip_L0 (p0, (IntKind.i64.wrap (t1_L0 + 1))) out h Q hx hr)
        · rw [if_neg hc40] at h
          refine SemF.cond rfl ?_
          simp only [gE, ↓gT, ↓reduceIte, reduceCtorEq, reduceAdd, reduceEqDiff, reduceLeDiff, reduceLT, eq_true hc21, eq_false hc22, eq_true (bx_nn h_c38), m_c38, v_c38, eq_false hc39, eq_false hc40]
          refine SemF.seq rfl ?_
          refine SemF.reg true rfl ?_
          try simp only [gE, ↓gT, ↓reduceIte, reduceCtorEq, reduceAdd, reduceEqDiff, reduceLeDiff, reduceLT, eq_true hc21, eq_false hc22, eq_true (bx_nn h_c38), m_c38, v_c38, eq_false hc39, eq_false hc40]; (repeat intro (_ : _ ≤ lim))
          refine SemF.ret rfl ?_
          try simp only [gE, ↓gT, ↓reduceIte, reduceCtorEq, reduceAdd, reduceEqDiff, reduceLeDiff, reduceLT, eq_true hc21, eq_false hc22, eq_true (bx_nn h_c38), m_c38, v_c38, eq_false hc39, eq_false hc40]; (repeat intro (_ : _ ≤ lim))
          obtain rfl := Option.some.inj h
          refine hr _ rfl _ _ ?_
          simp only [gE, ↓gT, ↓reduceIte, reduceCtorEq, reduceAdd, reduceEqDiff, reduceLeDiff, reduceLT, RetP_def, eq_true hc21, eq_false hc22, eq_true (bx_nn h_c38), m_c38, v_c38, eq_false hc39, eq_false hc40]
  · rw [if_neg hc21] at h
    refine SemF.cond rfl ?_
    simp only [gE, ↓gT, ↓reduceIte, reduceCtorEq, reduceAdd, reduceEqDiff, reduceLeDiff, reduceLT, eq_false hc21]
    refine SemF.exit rfl ?_
    simp only [gE, ↓gT, ↓reduceIte, reduceCtorEq, reduceAdd, reduceEqDiff, reduceLeDiff, reduceLT, eq_false hc21]
    obtain rfl := Option.some.inj h
    refine hx _ rfl _ _ [] ⟨by simp only [gE, ↓gT, ↓reduceIte, reduceCtorEq, reduceAdd, reduceEqDiff, reduceLeDiff, reduceLT, hwT, selS, erT, eq_false hc21], by decide, by decide, by simp only [gE, ↓gT, ↓reduceIte, reduceCtorEq, reduceAdd, reduceEqDiff, reduceLeDiff, reduceLT, hwT, selS, erT, subR, eq_false hc21], by simp only [gE, ↓gT, ↓reduceIte, reduceCtorEq, reduceAdd, reduceEqDiff, reduceLeDiff, reduceLT, hwT, selS, erT, scT, esT, eq_false hc21], by simp only [gE, ↓gT, ↓reduceIte, reduceCtorEq, reduceAdd, reduceEqDiff, reduceLeDiff, reduceLT, hwT, selS, erT, scT, esT, eq_false hc21]⟩
theorem spec_l1Skip : ∀ (x : (ByteArray × Int)) (r : Int), M.spec_l1Skip x = some r → HCp P F.spec_l1Skip [(.str x.1), (.int .i64 x.2)] (HV.int .i64 r) := by
  intro x r h
  obtain ⟨p0, p1⟩ := x
  unfold M.spec_l1Skip at h
  try dsimp only at h
  refine HCp.mkF S.spec_l1Skip (by simp [H.spec_l1Skip]) (by simp only [scT, esT, and_self, true_and, and_true]) ?_
  simp only [gE, ↓gT, ↓reduceIte, reduceCtorEq, reduceAdd, reduceEqDiff, reduceLeDiff, reduceLT, H.spec_l1Skip]
  refine SemF.seq rfl ?_
  refine SemF.reg true rfl ?_
  try simp only [gE, ↓gT, ↓reduceIte, reduceCtorEq, reduceAdd, reduceEqDiff, reduceLeDiff, reduceLT]; (repeat intro (_ : _ ≤ lim))
  refine SemF.seq rfl ?_
  refine SemF.block rfl ?_
  obtain ⟨s41, h_s41, h⟩ := bs h
  rcases s41 with r42 | v43
  · dsimp only at h
    refine SemF.loop rfl ?_
    refine SemL.weak (sel := []) ⟨by simp only [gE, ↓gT, ↓reduceIte, reduceCtorEq, reduceAdd, reduceEqDiff, reduceLeDiff, reduceLT, hwT, selS, erT], by decide, by decide, by simp only [gE, ↓gT, ↓reduceIte, reduceCtorEq, reduceAdd, reduceEqDiff, reduceLeDiff, reduceLT, hwT, selS, erT, subR], by simp only [gE, ↓gT, ↓reduceIte, reduceCtorEq, reduceAdd, reduceEqDiff, reduceLeDiff, reduceLT, hwT, selS, erT, scT, esT], by simp only [gE, ↓gT, ↓reduceIte, reduceCtorEq, reduceAdd, reduceEqDiff, reduceLeDiff, reduceLT, hwT, selS, erT, scT, esT]⟩ (K.spec_l1Skip_L0 (p0, p1) (.inl r42) h_s41 _ ?_ ?_)
    · intro v hv; cases hv
    · intro r' hr' env st hy
      cases hr'
      simp only [gE, ↓gT, ↓reduceIte, reduceCtorEq, reduceAdd, reduceEqDiff, reduceLeDiff, reduceLT]
      obtain rfl := Option.some.inj h
      exact hy
  · dsimp only at h
    refine SemF.loop rfl ?_
    refine SemL.weak (sel := []) ⟨by simp only [gE, ↓gT, ↓reduceIte, reduceCtorEq, reduceAdd, reduceEqDiff, reduceLeDiff, reduceLT, hwT, selS, erT], by decide, by decide, by simp only [gE, ↓gT, ↓reduceIte, reduceCtorEq, reduceAdd, reduceEqDiff, reduceLeDiff, reduceLT, hwT, selS, erT, subR], by simp only [gE, ↓gT, ↓reduceIte, reduceCtorEq, reduceAdd, reduceEqDiff, reduceLeDiff, reduceLT, hwT, selS, erT, scT, esT], by simp only [gE, ↓gT, ↓reduceIte, reduceCtorEq, reduceAdd, reduceEqDiff, reduceLeDiff, reduceLT, hwT, selS, erT, scT, esT]⟩ (K.spec_l1Skip_L0 (p0, p1) (.inr v43) h_s41 _ ?_ ?_)
    rotate_left
    · intro r' hr'; cases hr'
    intro v hv env st sel hw
    cases hv
    simp only [gE, ↓gT, ↓reduceIte, reduceCtorEq, reduceAdd, reduceEqDiff, reduceLeDiff, reduceLT]
    first | refine SemF.weak hw ?_ | refine SemL.weak hw ?_
    refine SemF.seq rfl ?_
    refine SemF.reg true rfl ?_
    try simp only [gE, ↓gT, ↓reduceIte, reduceCtorEq, reduceAdd, reduceEqDiff, reduceLeDiff, reduceLT]; (repeat intro (_ : _ ≤ lim))
    refine SemF.ret rfl ?_
    try simp only [gE, ↓gT, ↓reduceIte, reduceCtorEq, reduceAdd, reduceEqDiff, reduceLeDiff, reduceLT]; (repeat intro (_ : _ ≤ lim))
    obtain rfl := Option.some.inj h
    simp only [gE, ↓gT, ↓reduceIte, reduceCtorEq, reduceAdd, reduceEqDiff, reduceLeDiff, reduceLT, RetP_def]
theorem spec_l1Has_L0 : ∀ (x : ((List ByteArray) × ByteArray × Int)) (out : (Sum Bool Unit)), M.spec_l1Has_L0 x = some out → ∀ Q : HExit → Env → St → Prop, (∀ v, out = .inr v → ∀ env st sel, Weak 0 sel [] [] env st → Q (.exit 0) env st) → (∀ r, out = .inl r → ∀ env st, RetP [(4, none)] (HV.bool r) env st → Q .ret env st) → SemL P H.spec_l1Has.ntmps 0 H.spec_l1Has_l4 [(0, (.sl (List.map HV.str x.1))), (1, (.str x.2.1)), (5, (.int .i64 x.2.2))] [] Q := by
  refine M.spec_l1Has_L0.partial_correctness (motive := fun x out => ∀ Q : HExit → Env → St → Prop, (∀ v, out = .inr v → ∀ env st sel, Weak 0 sel [] [] env st → Q (.exit 0) env st) → (∀ r, out = .inl r → ∀ env st, RetP [(4, none)] (HV.bool r) env st → Q .ret env st) → SemL P H.spec_l1Has.ntmps 0 H.spec_l1Has_l4 [(0, (.sl (List.map HV.str x.1))), (1, (.str x.2.1)), (5, (.int .i64 x.2.2))] [] Q) ?_
  intro f_spec_l1Has_L0 ih_spec_l1Has_L0 x out h
  obtain ⟨p0, p1, t5_L0⟩ := x
  try dsimp only at h
  intro Q hx hr
  refine SemL.round ?_
  try dsimp only at hx
  refine SemF.seq rfl ?_
  refine SemF.seq rfl ?_
  refine SemF.reg true rfl ?_
  try simp only [gE, ↓gT, ↓reduceIte, reduceCtorEq, reduceAdd, reduceEqDiff, reduceLeDiff, reduceLT]; (repeat intro (_ : _ ≤ lim))
  (repeat intro (_ : _ ≤ lim))
  by_cases hc4 : t5_L0 < ((p0.length : Nat) : Int)
  · rw [if_pos hc4] at h
    refine SemF.cond rfl ?_
    simp only [gE, ↓gT, ↓reduceIte, reduceCtorEq, reduceAdd, reduceEqDiff, reduceLeDiff, reduceLT, eq_true hc4]
    refine SemF.skip rfl ?_
    simp only [gE, ↓gT, ↓reduceIte, reduceCtorEq, reduceAdd, reduceEqDiff, reduceLeDiff, reduceLT, eq_true hc4]
    refine SemF.seq rfl ?_
    refine SemF.block rfl ?_
    refine SemF.seq rfl ?_
    refine SemF.reg true rfl ?_
    try simp only [gE, ↓gT, ↓reduceIte, reduceCtorEq, reduceAdd, reduceEqDiff, reduceLeDiff, reduceLT, eq_true hc4]; (repeat intro (_ : _ ≤ lim))
    obtain ⟨e5, h_e5, h⟩ := bs h
    have m_e5 := ixm (f := HV.str) (ix_get h_e5)
    try simp only [gE, ↓gT, ↓reduceIte, reduceCtorEq, reduceAdd, reduceEqDiff, reduceLeDiff, reduceLT, eq_true hc4, eq_true (ix_nn h_e5), m_e5]; (repeat intro (_ : _ ≤ lim))
    by_cases hc6 : e5 = p1
    · rw [if_pos hc6] at h
      refine SemF.cond rfl ?_
      simp only [gE, ↓gT, ↓reduceIte, reduceCtorEq, reduceAdd, reduceEqDiff, reduceLeDiff, reduceLT, eq_true hc4, eq_true (ix_nn h_e5), m_e5, eq_true hc6]
      refine SemF.seq rfl ?_
      refine SemF.reg true rfl ?_
      try simp only [gE, ↓gT, ↓reduceIte, reduceCtorEq, reduceAdd, reduceEqDiff, reduceLeDiff, reduceLT, eq_true hc4, eq_true (ix_nn h_e5), m_e5, eq_true hc6]; (repeat intro (_ : _ ≤ lim))
      refine SemF.ret rfl ?_
      try simp only [gE, ↓gT, ↓reduceIte, reduceCtorEq, reduceAdd, reduceEqDiff, reduceLeDiff, reduceLT, eq_true hc4, eq_true (ix_nn h_e5), m_e5, eq_true hc6]; (repeat intro (_ : _ ≤ lim))
      obtain rfl := Option.some.inj h
      refine hr _ rfl _ _ ?_
      simp only [gE, ↓gT, ↓reduceIte, reduceCtorEq, reduceAdd, reduceEqDiff, reduceLeDiff, reduceLT, RetP_def, eq_true hc4, eq_true (ix_nn h_e5), m_e5, eq_true hc6]
    · rw [if_neg hc6] at h
      refine SemF.cond rfl ?_
      simp only [gE, ↓gT, ↓reduceIte, reduceCtorEq, reduceAdd, reduceEqDiff, reduceLeDiff, reduceLT, eq_true hc4, eq_true (ix_nn h_e5), m_e5, eq_false hc6]
      refine SemF.skip rfl ?_
      simp only [gE, ↓gT, ↓reduceIte, reduceCtorEq, reduceAdd, reduceEqDiff, reduceLeDiff, reduceLT, eq_true hc4, eq_true (ix_nn h_e5), m_e5, eq_false hc6]
      refine SemF.reg true rfl ?_
      try simp only [gE, ↓gT, ↓reduceIte, reduceCtorEq, reduceAdd, reduceEqDiff, reduceLeDiff, reduceLT, eq_true hc4, eq_true (ix_nn h_e5), m_e5, eq_false hc6]; (repeat intro (_ : _ ≤ lim))
      refine SemL.weak (sel := []) ⟨by simp only [gE, ↓gT, ↓reduceIte, reduceCtorEq, reduceAdd, reduceEqDiff, reduceLeDiff, reduceLT, hwT, selS, erT, eq_true hc4, eq_true (ix_nn h_e5), m_e5, eq_false hc6], by decide, by decide, by simp only [gE, ↓gT, ↓reduceIte, reduceCtorEq, reduceAdd, reduceEqDiff, reduceLeDiff, reduceLT, hwT, selS, erT, subR, eq_true hc4, eq_true (ix_nn h_e5), m_e5, eq_false hc6], by simp only [gE, ↓gT, ↓reduceIte, reduceCtorEq, reduceAdd, reduceEqDiff, reduceLeDiff, reduceLT, hwT, selS, erT, scT, esT, eq_true hc4, eq_true (ix_nn h_e5), m_e5, eq_false hc6], by simp only [gE, ↓gT, ↓reduceIte, reduceCtorEq, reduceAdd, reduceEqDiff, reduceLeDiff, reduceLT, hwT, selS, erT, scT, esT, eq_true hc4, eq_true (ix_nn h_e5), m_e5, eq_false hc6]⟩ (ih_spec_l1Has_L0 (p0, p1, (IntKind.i64.wrap (t5_L0 + 1))) out h Q hx hr)
  · rw [if_neg hc4] at h
    refine SemF.cond rfl ?_
    simp only [gE, ↓gT, ↓reduceIte, reduceCtorEq, reduceAdd, reduceEqDiff, reduceLeDiff, reduceLT, eq_false hc4]
    refine SemF.exit rfl ?_
    simp only [gE, ↓gT, ↓reduceIte, reduceCtorEq, reduceAdd, reduceEqDiff, reduceLeDiff, reduceLT, eq_false hc4]
    obtain rfl := Option.some.inj h
    refine hx _ rfl _ _ [] ⟨by simp only [gE, ↓gT, ↓reduceIte, reduceCtorEq, reduceAdd, reduceEqDiff, reduceLeDiff, reduceLT, hwT, selS, erT, eq_false hc4], by decide, by decide, by simp only [gE, ↓gT, ↓reduceIte, reduceCtorEq, reduceAdd, reduceEqDiff, reduceLeDiff, reduceLT, hwT, selS, erT, subR, eq_false hc4], by simp only [gE, ↓gT, ↓reduceIte, reduceCtorEq, reduceAdd, reduceEqDiff, reduceLeDiff, reduceLT, hwT, selS, erT, scT, esT, eq_false hc4], by simp only [gE, ↓gT, ↓reduceIte, reduceCtorEq, reduceAdd, reduceEqDiff, reduceLeDiff, reduceLT, hwT, selS, erT, scT, esT, eq_false hc4]⟩
theorem spec_l1Has : ∀ (x : ((List ByteArray) × ByteArray)) (r : Bool), M.spec_l1Has x = some r → HCp P F.spec_l1Has [(.sl (List.map HV.str x.1)), (.str x.2)] (HV.bool r) := by
  intro x r h
  obtain ⟨p0, p1⟩ := x
  unfold M.spec_l1Has at h
  try dsimp only at h
  refine HCp.mkF S.spec_l1Has (by simp [H.spec_l1Has]) (by simp only [scT, esT, and_self, true_and, and_true]) ?_
  simp only [gE, ↓gT, ↓reduceIte, reduceCtorEq, reduceAdd, reduceEqDiff, reduceLeDiff, reduceLT, H.spec_l1Has]
  refine SemF.seq rfl ?_
  refine SemF.reg true rfl ?_
  try simp only [gE, ↓gT, ↓reduceIte, reduceCtorEq, reduceAdd, reduceEqDiff, reduceLeDiff, reduceLT]; (repeat intro (_ : _ ≤ lim))
  refine SemF.seq rfl ?_
  refine SemF.seq rfl ?_
  refine SemF.reg true rfl ?_
  try simp only [gE, ↓gT, ↓reduceIte, reduceCtorEq, reduceAdd, reduceEqDiff, reduceLeDiff, reduceLT]; (repeat intro (_ : _ ≤ lim))
  refine SemF.block rfl ?_
  obtain ⟨s7, h_s7, h⟩ := bs h
  rcases s7 with r8 | v9
  · dsimp only at h
    refine SemF.loop rfl ?_
    refine SemL.weak (sel := []) ⟨by simp only [gE, ↓gT, ↓reduceIte, reduceCtorEq, reduceAdd, reduceEqDiff, reduceLeDiff, reduceLT, hwT, selS, erT], by decide, by decide, by simp only [gE, ↓gT, ↓reduceIte, reduceCtorEq, reduceAdd, reduceEqDiff, reduceLeDiff, reduceLT, hwT, selS, erT, subR], by simp only [gE, ↓gT, ↓reduceIte, reduceCtorEq, reduceAdd, reduceEqDiff, reduceLeDiff, reduceLT, hwT, selS, erT, scT, esT], by simp only [gE, ↓gT, ↓reduceIte, reduceCtorEq, reduceAdd, reduceEqDiff, reduceLeDiff, reduceLT, hwT, selS, erT, scT, esT]⟩ (K.spec_l1Has_L0 (p0, p1, 0) (.inl r8) h_s7 _ ?_ ?_)
    · intro v hv; cases hv
    · intro r' hr' env st hy
      cases hr'
      simp only [gE, ↓gT, ↓reduceIte, reduceCtorEq, reduceAdd, reduceEqDiff, reduceLeDiff, reduceLT]
      obtain rfl := Option.some.inj h
      exact hy
  · dsimp only at h
    refine SemF.loop rfl ?_
    refine SemL.weak (sel := []) ⟨by simp only [gE, ↓gT, ↓reduceIte, reduceCtorEq, reduceAdd, reduceEqDiff, reduceLeDiff, reduceLT, hwT, selS, erT], by decide, by decide, by simp only [gE, ↓gT, ↓reduceIte, reduceCtorEq, reduceAdd, reduceEqDiff, reduceLeDiff, reduceLT, hwT, selS, erT, subR], by simp only [gE, ↓gT, ↓reduceIte, reduceCtorEq, reduceAdd, reduceEqDiff, reduceLeDiff, reduceLT, hwT, selS, erT, scT, esT], by simp only [gE, ↓gT, ↓reduceIte, reduceCtorEq, reduceAdd, reduceEqDiff, reduceLeDiff, reduceLT, hwT, selS, erT, scT, esT]⟩ (K.spec_l1Has_L0 (p0, p1, 0) (.inr v9) h_s7 _ ?_ ?_)
    rotate_left
    · intro r' hr'; cases hr'
    intro v hv env st sel hw
    cases hv
    simp only [gE, ↓gT, ↓reduceIte, reduceCtorEq, reduceAdd, reduceEqDiff, reduceLeDiff, reduceLT]
    first | refine SemF.weak hw ?_ | refine SemL.weak hw ?_
    refine SemF.seq rfl ?_
    refine SemF.reg true rfl ?_
    try simp only [gE, ↓gT, ↓reduceIte, reduceCtorEq, reduceAdd, reduceEqDiff, reduceLeDiff, reduceLT]; (repeat intro (_ : _ ≤ lim))
    refine SemF.ret rfl ?_
    try simp only [gE, ↓gT, ↓reduceIte, reduceCtorEq, reduceAdd, reduceEqDiff, reduceLeDiff, reduceLT]; (repeat intro (_ : _ ≤ lim))
    obtain rfl := Option.some.inj h
    simp only [gE, ↓gT, ↓reduceIte, reduceCtorEq, reduceAdd, reduceEqDiff, reduceLeDiff, reduceLT, RetP_def]
theorem spec_l1In : ∀ (x : (Int × Int × Int)) (r : Bool), M.spec_l1In x = some r → HCp P F.spec_l1In [(.int .i64 x.1), (.int .i64 x.2.1), (.int .i64 x.2.2)] (HV.bool r) := by
  intro x r h
  obtain ⟨p0, p1, p2⟩ := x
  unfold M.spec_l1In at h
  try dsimp only at h
  refine HCp.mkF S.spec_l1In (by simp [H.spec_l1In]) (by simp only [scT, esT, and_self, true_and, and_true]) ?_
  simp only [gE, ↓gT, ↓reduceIte, reduceCtorEq, reduceAdd, reduceEqDiff, reduceLeDiff, reduceLT, H.spec_l1In]
  refine SemF.seq rfl ?_
  refine SemF.reg true rfl ?_
  try simp only [gE, ↓gT, ↓reduceIte, reduceCtorEq, reduceAdd, reduceEqDiff, reduceLeDiff, reduceLT]; (repeat intro (_ : _ ≤ lim))
  refine SemF.seq rfl ?_
  refine SemF.reg true rfl ?_
  try simp only [gE, ↓gT, ↓reduceIte, reduceCtorEq, reduceAdd, reduceEqDiff, reduceLeDiff, reduceLT]; (repeat intro (_ : _ ≤ lim))
  by_cases hc1 : p1 ≤ p0
  · rw [if_pos hc1] at h
    try simp only [gE, ↓gT, ↓reduceIte, reduceCtorEq, reduceAdd, reduceEqDiff, reduceLeDiff, reduceLT, eq_true hc1]; (repeat intro (_ : _ ≤ lim))
    refine SemF.ret rfl ?_
    try simp only [gE, ↓gT, ↓reduceIte, reduceCtorEq, reduceAdd, reduceEqDiff, reduceLeDiff, reduceLT, eq_true hc1]; (repeat intro (_ : _ ≤ lim))
    obtain rfl := Option.some.inj h
    simp only [gE, ↓gT, ↓reduceIte, reduceCtorEq, reduceAdd, reduceEqDiff, reduceLeDiff, reduceLT, RetP_def, eq_true hc1]
  · rw [if_neg hc1] at h
    try simp only [gE, ↓gT, ↓reduceIte, reduceCtorEq, reduceAdd, reduceEqDiff, reduceLeDiff, reduceLT, eq_false hc1]; (repeat intro (_ : _ ≤ lim))
    refine SemF.ret rfl ?_
    try simp only [gE, ↓gT, ↓reduceIte, reduceCtorEq, reduceAdd, reduceEqDiff, reduceLeDiff, reduceLT, eq_false hc1]; (repeat intro (_ : _ ≤ lim))
    obtain rfl := Option.some.inj h
    simp only [gE, ↓gT, ↓reduceIte, reduceCtorEq, reduceAdd, reduceEqDiff, reduceLeDiff, reduceLT, RetP_def, eq_false hc1]
theorem spec_l1Digit : ∀ (x : Int) (r : Bool), M.spec_l1Digit x = some r → HCp P F.spec_l1Digit [(.int .u8 x)] (HV.bool r) := by
  intro x r h
  revert h; revert x; intro p0 h
  unfold M.spec_l1Digit at h
  try dsimp only at h
  refine HCp.mkF S.spec_l1Digit (by simp [H.spec_l1Digit]) (by simp only [scT, esT, and_self, true_and, and_true]) ?_
  simp only [gE, ↓gT, ↓reduceIte, reduceCtorEq, reduceAdd, reduceEqDiff, reduceLeDiff, reduceLT, H.spec_l1Digit]
  refine SemF.seq rfl ?_
  refine SemF.reg true rfl ?_
  try simp only [gE, ↓gT, ↓reduceIte, reduceCtorEq, reduceAdd, reduceEqDiff, reduceLeDiff, reduceLT]; (repeat intro (_ : _ ≤ lim))
  refine SemF.seq rfl ?_
  refine SemF.reg true rfl ?_
  try simp only [gE, ↓gT, ↓reduceIte, reduceCtorEq, reduceAdd, reduceEqDiff, reduceLeDiff, reduceLT]; (repeat intro (_ : _ ≤ lim))
  obtain ⟨r1, h_r1, h⟩ := bs h
  refine HCp.callE (K.spec_l1In ((IntKind.i64.wrap p0), 48, 57) r1 h_r1) (by simp only [gE, ↓gT, ↓reduceIte, reduceCtorEq, reduceAdd, reduceEqDiff, reduceLeDiff, reduceLT]) (by simp only [scT, esT, and_self, true_and, and_true]) (by simp only [scT, esT, and_self, true_and, and_true]) ?_
  try simp only [gE, ↓gT, ↓reduceIte, reduceCtorEq, reduceAdd, reduceEqDiff, reduceLeDiff, reduceLT]; (repeat intro (_ : _ ≤ lim))
  refine SemF.ret rfl ?_
  try simp only [gE, ↓gT, ↓reduceIte, reduceCtorEq, reduceAdd, reduceEqDiff, reduceLeDiff, reduceLT]; (repeat intro (_ : _ ≤ lim))
  obtain rfl := Option.some.inj h
  simp only [gE, ↓gT, ↓reduceIte, reduceCtorEq, reduceAdd, reduceEqDiff, reduceLeDiff, reduceLT, RetP_def]
theorem spec_l1Large : ∀ (x : Int) (r : Bool), M.spec_l1Large x = some r → HCp P F.spec_l1Large [(.int .u8 x)] (HV.bool r) := by
  intro x r h
  revert h; revert x; intro p0 h
  unfold M.spec_l1Large at h
  try dsimp only at h
  refine HCp.mkF S.spec_l1Large (by simp [H.spec_l1Large]) (by simp only [scT, esT, and_self, true_and, and_true]) ?_
  simp only [gE, ↓gT, ↓reduceIte, reduceCtorEq, reduceAdd, reduceEqDiff, reduceLeDiff, reduceLT, H.spec_l1Large]
  refine SemF.seq rfl ?_
  refine SemF.reg true rfl ?_
  try simp only [gE, ↓gT, ↓reduceIte, reduceCtorEq, reduceAdd, reduceEqDiff, reduceLeDiff, reduceLT]; (repeat intro (_ : _ ≤ lim))
  refine SemF.seq rfl ?_
  refine SemF.reg true rfl ?_
  try simp only [gE, ↓gT, ↓reduceIte, reduceCtorEq, reduceAdd, reduceEqDiff, reduceLeDiff, reduceLT]; (repeat intro (_ : _ ≤ lim))
  obtain ⟨r1, h_r1, h⟩ := bs h
  refine HCp.callE (K.spec_l1In ((IntKind.i64.wrap p0), 65, 90) r1 h_r1) (by simp only [gE, ↓gT, ↓reduceIte, reduceCtorEq, reduceAdd, reduceEqDiff, reduceLeDiff, reduceLT]) (by simp only [scT, esT, and_self, true_and, and_true]) (by simp only [scT, esT, and_self, true_and, and_true]) ?_
  try simp only [gE, ↓gT, ↓reduceIte, reduceCtorEq, reduceAdd, reduceEqDiff, reduceLeDiff, reduceLT]; (repeat intro (_ : _ ≤ lim))
  refine SemF.ret rfl ?_
  try simp only [gE, ↓gT, ↓reduceIte, reduceCtorEq, reduceAdd, reduceEqDiff, reduceLeDiff, reduceLT]; (repeat intro (_ : _ ≤ lim))
  obtain rfl := Option.some.inj h
  simp only [gE, ↓gT, ↓reduceIte, reduceCtorEq, reduceAdd, reduceEqDiff, reduceLeDiff, reduceLT, RetP_def]
theorem spec_l1NumOk_L0 : ∀ (x : (ByteArray × Int)) (out : (Sum Bool Unit)), M.spec_l1NumOk_L0 x = some out → ∀ Q : HExit → Env → St → Prop, (∀ v, out = .inr v → ∀ env st sel, Weak 0 sel [(0, (.str x.1))] [] env st → Q (.exit 0) env st) → (∀ r, out = .inl r → ∀ env st, RetP [(2, none)] (HV.bool r) env st → Q .ret env st) → SemL P H.spec_l1NumOk.ntmps 0 H.spec_l1NumOk_l4 [(0, (.str x.1)), (3, (.int .i64 x.2))] [] Q := by
  refine M.spec_l1NumOk_L0.partial_correctness (motive := fun x out => ∀ Q : HExit → Env → St → Prop, (∀ v, out = .inr v → ∀ env st sel, Weak 0 sel [(0, (.str x.1))] [] env st → Q (.exit 0) env st) → (∀ r, out = .inl r → ∀ env st, RetP [(2, none)] (HV.bool r) env st → Q .ret env st) → SemL P H.spec_l1NumOk.ntmps 0 H.spec_l1NumOk_l4 [(0, (.str x.1)), (3, (.int .i64 x.2))] [] Q) ?_
  intro f_spec_l1NumOk_L0 ih_spec_l1NumOk_L0 x out h
  obtain ⟨p0, t3_L0⟩ := x
  try dsimp only at h
  intro Q hx hr
  refine SemL.round ?_
  try dsimp only at hx
  refine SemF.seq rfl ?_
  refine SemF.seq rfl ?_
  refine SemF.reg true rfl ?_
  try simp only [gE, ↓gT, ↓reduceIte, reduceCtorEq, reduceAdd, reduceEqDiff, reduceLeDiff, reduceLT]; (repeat intro (_ : _ ≤ lim))
  (repeat intro (_ : _ ≤ lim))
  by_cases hc5 : t3_L0 < ((p0.size : Nat) : Int)
  · rw [if_pos hc5] at h
    refine SemF.cond rfl ?_
    simp only [gE, ↓gT, ↓reduceIte, reduceCtorEq, reduceAdd, reduceEqDiff, reduceLeDiff, reduceLT, eq_true hc5]
    refine SemF.skip rfl ?_
    simp only [gE, ↓gT, ↓reduceIte, reduceCtorEq, reduceAdd, reduceEqDiff, reduceLeDiff, reduceLT, eq_true hc5]
    refine SemF.seq rfl ?_
    refine SemF.block rfl ?_
    refine SemF.seq rfl ?_
    refine SemF.reg true rfl ?_
    try simp only [gE, ↓gT, ↓reduceIte, reduceCtorEq, reduceAdd, reduceEqDiff, reduceLeDiff, reduceLT, eq_true hc5]; (repeat intro (_ : _ ≤ lim))
    obtain ⟨c6, h_c6, h⟩ := bs h
    obtain ⟨c_c6, m_c6, v_c6⟩ := bx_get h_c6
    try simp only [gE, ↓gT, ↓reduceIte, reduceCtorEq, reduceAdd, reduceEqDiff, reduceLeDiff, reduceLT, eq_true hc5, eq_true (bx_nn h_c6), m_c6, v_c6]; (repeat intro (_ : _ ≤ lim))
    obtain ⟨r7, h_r7, h⟩ := bs h
    refine HCp.callE (K.spec_l1Digit c6 r7 h_r7) (by simp only [gE, ↓gT, ↓reduceIte, reduceCtorEq, reduceAdd, reduceEqDiff, reduceLeDiff, reduceLT, eq_true hc5, eq_true (bx_nn h_c6), m_c6, v_c6]) (by simp only [scT, esT, and_self, true_and, and_true]) (by simp only [scT, esT, and_self, true_and, and_true]) ?_
    try simp only [gE, ↓gT, ↓reduceIte, reduceCtorEq, reduceAdd, reduceEqDiff, reduceLeDiff, reduceLT, eq_true hc5, eq_true (bx_nn h_c6), m_c6, v_c6]; (repeat intro (_ : _ ≤ lim))
    by_cases hc8 : r7 = true
    · rw [if_pos hc8] at h
      refine SemF.cond rfl ?_
      simp only [gE, ↓gT, ↓reduceIte, reduceCtorEq, reduceAdd, reduceEqDiff, reduceLeDiff, reduceLT, eq_true hc5, eq_true (bx_nn h_c6), m_c6, v_c6, hc8]
      refine SemF.skip rfl ?_
      simp only [gE, ↓gT, ↓reduceIte, reduceCtorEq, reduceAdd, reduceEqDiff, reduceLeDiff, reduceLT, eq_true hc5, eq_true (bx_nn h_c6), m_c6, v_c6, hc8]
      refine SemF.reg true rfl ?_
      try simp only [gE, ↓gT, ↓reduceIte, reduceCtorEq, reduceAdd, reduceEqDiff, reduceLeDiff, reduceLT, eq_true hc5, eq_true (bx_nn h_c6), m_c6, v_c6, hc8]; (repeat intro (_ : _ ≤ lim))
      refine SemL.weak (sel := []) ⟨by simp only [gE, ↓gT, ↓reduceIte, reduceCtorEq, reduceAdd, reduceEqDiff, reduceLeDiff, reduceLT, hwT, selS, erT, eq_true hc5, eq_true (bx_nn h_c6), m_c6, v_c6, hc8], by decide, by decide, by simp only [gE, ↓gT, ↓reduceIte, reduceCtorEq, reduceAdd, reduceEqDiff, reduceLeDiff, reduceLT, hwT, selS, erT, subR, eq_true hc5, eq_true (bx_nn h_c6), m_c6, v_c6, hc8], by simp only [gE, ↓gT, ↓reduceIte, reduceCtorEq, reduceAdd, reduceEqDiff, reduceLeDiff, reduceLT, hwT, selS, erT, scT, esT, eq_true hc5, eq_true (bx_nn h_c6), m_c6, v_c6, hc8], by simp only [gE, ↓gT, ↓reduceIte, reduceCtorEq, reduceAdd, reduceEqDiff, reduceLeDiff, reduceLT, hwT, selS, erT, scT, esT, eq_true hc5, eq_true (bx_nn h_c6), m_c6, v_c6, hc8]⟩ (ih_spec_l1NumOk_L0 (p0, (IntKind.i64.wrap (t3_L0 + 1))) out h Q hx hr)
    · rw [if_neg hc8] at h
      replace hc8 := eq_false_of_ne_true hc8
      refine SemF.cond rfl ?_
      simp only [gE, ↓gT, ↓reduceIte, reduceCtorEq, reduceAdd, reduceEqDiff, reduceLeDiff, reduceLT, eq_true hc5, eq_true (bx_nn h_c6), m_c6, v_c6, hc8]
      refine SemF.seq rfl ?_
      refine SemF.reg true rfl ?_
      try simp only [gE, ↓gT, ↓reduceIte, reduceCtorEq, reduceAdd, reduceEqDiff, reduceLeDiff, reduceLT, eq_true hc5, eq_true (bx_nn h_c6), m_c6, v_c6, hc8]; (repeat intro (_ : _ ≤ lim))
      refine SemF.ret rfl ?_
      try simp only [gE, ↓gT, ↓reduceIte, reduceCtorEq, reduceAdd, reduceEqDiff, reduceLeDiff, reduceLT, eq_true hc5, eq_true (bx_nn h_c6), m_c6, v_c6, hc8]; (repeat intro (_ : _ ≤ lim))
      obtain rfl := Option.some.inj h
      refine hr _ rfl _ _ ?_
      simp only [gE, ↓gT, ↓reduceIte, reduceCtorEq, reduceAdd, reduceEqDiff, reduceLeDiff, reduceLT, RetP_def, eq_true hc5, eq_true (bx_nn h_c6), m_c6, v_c6, hc8]
  · rw [if_neg hc5] at h
    refine SemF.cond rfl ?_
    simp only [gE, ↓gT, ↓reduceIte, reduceCtorEq, reduceAdd, reduceEqDiff, reduceLeDiff, reduceLT, eq_false hc5]
    refine SemF.exit rfl ?_
    simp only [gE, ↓gT, ↓reduceIte, reduceCtorEq, reduceAdd, reduceEqDiff, reduceLeDiff, reduceLT, eq_false hc5]
    obtain rfl := Option.some.inj h
    refine hx _ rfl _ _ [] ⟨by simp only [gE, ↓gT, ↓reduceIte, reduceCtorEq, reduceAdd, reduceEqDiff, reduceLeDiff, reduceLT, hwT, selS, erT, eq_false hc5], by decide, by decide, by simp only [gE, ↓gT, ↓reduceIte, reduceCtorEq, reduceAdd, reduceEqDiff, reduceLeDiff, reduceLT, hwT, selS, erT, subR, eq_false hc5], by simp only [gE, ↓gT, ↓reduceIte, reduceCtorEq, reduceAdd, reduceEqDiff, reduceLeDiff, reduceLT, hwT, selS, erT, scT, esT, eq_false hc5], by simp only [gE, ↓gT, ↓reduceIte, reduceCtorEq, reduceAdd, reduceEqDiff, reduceLeDiff, reduceLT, hwT, selS, erT, scT, esT, eq_false hc5]⟩
end K
end W
