import Derived.Test.YtnhdobhfebiggaaEPrf13
namespace W
set_option linter.unusedSimpArgs false
set_option linter.unusedVariables false
open Go HL S
open Nat (reduceAdd reduceEqDiff reduceLeDiff reduceSub reduceMul reduceLT)
set_option linter.unusedVariables false
set_option maxRecDepth 100000
set_option maxHeartbeats 4000000
namespace K
theorem spec_SameExp_L1_step (f_spec_SameExp : (Exp × Exp) → Option Bool) (f_spec_SameExp_L1 : (Exp × Exp × Int) → Option (Sum Bool Unit)) (ih_spec_SameExp : ∀ (x : (Exp × Exp)) (r : Bool), f_spec_SameExp x = some r → HCp P F.spec_SameExp [(Exp.enc x.1), (Exp.enc x.2)] (HV.bool r)) (ih_spec_SameExp_L1 : ∀ (x : (Exp × Exp × Int)) (out : (Sum Bool Unit)), f_spec_SameExp_L1 x = some out → ∀ Q : HExit → Env → St → Prop, (∀ v, out = .inr v → ∀ env st sel, Weak 0 sel [] [] env st → Q (.exit 2) env st) → (∀ r, out = .inl r → ∀ env st, RetP [(4, none)] (HV.bool r) env st → Q .ret env st) → SemL P H.spec_SameExp.ntmps 0 H.spec_SameExp_l6 [(2, (.ptr 0 1 0 0)), (3, (.ptr 1 1 0 0)), (6, (.int .i64 x.2.2))] [(.box (Exp.enc x.1)), (.box (Exp.enc x.2.1))] Q) (x : (Exp × Exp × Int)) (out : (Sum Bool Unit)) (h : (if x.2.2 < ((x.1.Alts.length : Nat) : Int) then (ix x.1.Alts x.2.2 >>= fun e30 =>
    (ix x.2.1.Alts x.2.2 >>= fun e31 =>
    (if e30.Great = e31.Great then (M.spec_l3SameTexts (e30.Vars, e31.Vars) >>= fun r33 =>
    (if r33 = true then (f_spec_SameExp (e30.E, e31.E) >>= fun r35 =>
    (if r35 = true then f_spec_SameExp_L1 (x.1, x.2.1, (IntKind.i64.wrap (x.2.2 + 1))) else
    some (.inl false))) else
    some (.inl false))) else
    some (.inl false)))) else
    some (.inr ())) = some out) : ∀ Q : HExit → Env → St → Prop, (∀ v, out = .inr v → ∀ env st sel, Weak 0 sel [] [] env st → Q (.exit 2) env st) → (∀ r, out = .inl r → ∀ env st, RetP [(4, none)] (HV.bool r) env st → Q .ret env st) → SemL P H.spec_SameExp.ntmps 0 H.spec_SameExp_l6 [(2, (.ptr 0 1 0 0)), (3, (.ptr 1 1 0 0)), (6, (.int .i64 x.2.2))] [(.box (Exp.enc x.1)), (.box (Exp.enc x.2.1))] Q := by
  obtain ⟨p0, p1, t6_L1⟩ := x
  try dsimp only at h
  intro Q hx hr
  refine SemL.round ?_
  try dsimp only at hx
  refine SemF.seq rfl ?_
  refine SemF.seq rfl ?_
  refine SemF.reg true rfl ?_
  try simp only [gE, ↓gT, ↓reduceIte, reduceCtorEq, reduceAdd, reduceEqDiff, reduceLeDiff, reduceLT]; (repeat intro (_ : _ ≤ lim))
  (repeat intro (_ : _ ≤ lim))
  by_cases hc29 : t6_L1 < ((p0.Alts.length : Nat) : Int)
  · rw [if_pos hc29] at h
    refine SemF.cond rfl ?_
    simp only [gE, ↓gT, ↓reduceIte, reduceCtorEq, reduceAdd, reduceEqDiff, reduceLeDiff, reduceLT, eq_true hc29]
    refine SemF.skip rfl ?_
    simp only [gE, ↓gT, ↓reduceIte, reduceCtorEq, reduceAdd, reduceEqDiff, reduceLeDiff, reduceLT, eq_true hc29]
    refine SemF.seq rfl ?_
    refine SemF.block rfl ?_
    refine SemF.seq rfl ?_
    refine SemF.dreg true rfl ?_
    try simp only [gE, ↓gT, ↓reduceIte, reduceCtorEq, reduceAdd, reduceEqDiff, reduceLeDiff, reduceLT, eq_true hc29]; (repeat intro (_ : _ ≤ lim))
    obtain ⟨e30, h_e30, h⟩ := bs h
    have m_e30 := ixm (f := Alt.enc) (ix_get h_e30)
    try simp only [gE, ↓gT, ↓reduceIte, reduceCtorEq, reduceAdd, reduceEqDiff, reduceLeDiff, reduceLT, eq_true hc29, eq_true (ix_nn h_e30), m_e30]; (repeat intro (_ : _ ≤ lim))
    obtain ⟨e31, h_e31, h⟩ := bs h
    have m_e31 := ixm (f := Alt.enc) (ix_get h_e31)
    try simp only [gE, ↓gT, ↓reduceIte, reduceCtorEq, reduceAdd, reduceEqDiff, reduceLeDiff, reduceLT, eq_true hc29, eq_true (ix_nn h_e30), m_e30, eq_true (ix_nn h_e31), m_e31]; (repeat intro (_ : _ ≤ lim))
    by_cases hc32 : e30.Great = e31.Great
    · rw [if_pos hc32] at h
      try simp only [gE, ↓gT, ↓reduceIte, reduceCtorEq, reduceAdd, reduceEqDiff, reduceLeDiff, reduceLT, eq_true hc29, eq_true (ix_nn h_e30), m_e30, eq_true (ix_nn h_e31), m_e31, eq_true hc32]; (repeat intro (_ : _ ≤ lim))
      obtain ⟨r33, h_r33, h⟩ := bs h
      refine HCp.callE (K.spec_l3SameTexts (e30.Vars, e31.Vars) r33 h_r33) (by simp only [gE, ↓gT, ↓reduceIte, reduceCtorEq, reduceAdd, reduceEqDiff, reduceLeDiff, reduceLT, eq_true hc29, eq_true (ix_nn h_e30), m_e30, eq_true (ix_nn h_e31), m_e31, eq_true hc32]) (by simp only [scT, esT, and_self, true_and, and_true]) (by simp only [scT, esT, and_self, true_and, and_true]) ?_
      try simp only [gE, ↓gT, ↓reduceIte, reduceCtorEq, reduceAdd, reduceEqDiff, reduceLeDiff, reduceLT, eq_true hc29, eq_true (ix_nn h_e30), m_e30, eq_true (ix_nn h_e31), m_e31, eq_true hc32]; (repeat intro (_ : _ ≤ lim))
      by_cases hc34 : r33 = true
      · rw [if_pos hc34] at h
        try simp only [gE, ↓gT, ↓reduceIte, reduceCtorEq, reduceAdd, reduceEqDiff, reduceLeDiff, reduceLT, eq_true hc29, eq_true (ix_nn h_e30), m_e30, eq_true (ix_nn h_e31), m_e31, eq_true hc32, hc34]; (repeat intro (_ : _ ≤ lim))
        obtain ⟨r35, h_r35, h⟩ := bs h
        refine HCp.callE (ih_spec_SameExp (e30.E, e31.E) r35 h_r35) (by simp only [gE, ↓gT, ↓reduceIte, reduceCtorEq, reduceAdd, reduceEqDiff, reduceLeDiff, reduceLT, eq_true hc29, eq_true (ix_nn h_e30), m_e30, eq_true (ix_nn h_e31), m_e31, eq_true hc32, hc34]) (by simp only [scT, esT, and_self, true_and, and_true]) (by simp only [scT, esT, and_self, true_and, and_true]) ?_
        try simp only [gE, ↓gT, ↓reduceIte, reduceCtorEq, reduceAdd, reduceEqDiff, reduceLeDiff, reduceLT, eq_true hc29, eq_true (ix_nn h_e30), m_e30, eq_true (ix_nn h_e31), m_e31, eq_true hc32, hc34]; (repeat intro (_ : _ ≤ lim))
        by_cases hc36 : r35 = true
        · rw [if_pos hc36] at h
          refine SemF.cond rfl ?_
          simp only [gE, ↓gT, ↓reduceIte, reduceCtorEq, reduceAdd, reduceEqDiff, reduceLeDiff, reduceLT, eq_true hc29, eq_true (ix_nn h_e30), m_e30, eq_true (ix_nn h_e31), m_e31, eq_true hc32, hc34, hc36]
          refine SemF.skip rfl ?_
          simp only [gE, ↓gT, ↓reduceIte, reduceCtorEq, reduceAdd, reduceEqDiff, reduceLeDiff, reduceLT, eq_true hc29, eq_true (ix_nn h_e30), m_e30, eq_true (ix_nn h_e31), m_e31, eq_true hc32, hc34, hc36]
          refine SemF.reg true rfl ?_
          try simp only [gE, ↓gT, ↓reduceIte, reduceCtorEq, reduceAdd, reduceEqDiff, reduceLeDiff, reduceLT, eq_true hc29, eq_true (ix_nn h_e30), m_e30, eq_true (ix_nn h_e31), m_e31, eq_true hc32, hc34, hc36]; (repeat intro (_ : _ ≤ lim))
          refine SemL.weak (sel := [0, 1]) ⟨by simp only [gE, ↓gT, ↓reduceIte, reduceCtorEq, reduceAdd, reduceEqDiff, reduceLeDiff, reduceLT, hwT, selS, erT, eq_true hc29, eq_true (ix_nn h_e30), m_e30, eq_true (ix_nn h_e31), m_e31, eq_true hc32, hc34, hc36], by decide, by decide, by simp only [gE, ↓gT, ↓reduceIte, reduceCtorEq, reduceAdd, reduceEqDiff, reduceLeDiff, reduceLT, hwT, selS, erT, subR, eq_true hc29, eq_true (ix_nn h_e30), m_e30, eq_true (ix_nn h_e31), m_e31, eq_true hc32, hc34, hc36], by simp only [gE, ↓gT, ↓reduceIte, reduceCtorEq, reduceAdd, reduceEqDiff, reduceLeDiff, reduceLT, hwT, selS, erT, scT, esT, eq_true hc29, eq_true (ix_nn h_e30), m_e30, eq_true (ix_nn h_e31), m_e31, eq_true hc32, hc34, hc36], by simp only [gE, ↓gT, ↓reduceIte, reduceCtorEq, reduceAdd, reduceEqDiff, reduceLeDiff, reduceLT, hwT, selS, erT, scT, esT, eq_true hc29, eq_true (ix_nn h_e30), m_e30, eq_true (ix_nn h_e31), m_e31, eq_true hc32, hc34, hc36]⟩ (ih_spec_SameExp_L1 (p0, p1, (IntKind.i64.wrap (t6_L1 + 1))) out h Q hx hr)
        · rw [if_neg hc36] at h
          replace hc36 := eq_false_of_ne_true hc36
          refine SemF.cond rfl ?_
          simp only [gE, ↓gT, ↓reduceIte, reduceCtorEq, reduceAdd, reduceEqDiff, reduceLeDiff, reduceLT, eq_true hc29, eq_true (ix_nn h_e30), m_e30, eq_true (ix_nn h_e31), m_e31, eq_true hc32, hc34, hc36]
          refine SemF.seq rfl ?_
          refine SemF.reg true rfl ?_
          try simp only [gE, ↓gT, ↓reduceIte, reduceCtorEq, reduceAdd, reduceEqDiff, reduceLeDiff, reduceLT, eq_true hc29, eq_true (ix_nn h_e30), m_e30, eq_true (ix_nn h_e31), m_e31, eq_true hc32, hc34, hc36]; (repeat intro (_ : _ ≤ lim))
          refine SemF.ret rfl ?_
          try simp only [gE, ↓gT, ↓reduceIte, reduceCtorEq, reduceAdd, reduceEqDiff, reduceLeDiff, reduceLT, eq_true hc29, eq_true (ix_nn h_e30), m_e30, eq_true (ix_nn h_e31), m_e31, eq_true hc32, hc34, hc36]; (repeat intro (_ : _ ≤ lim))
          obtain rfl := Option.some.inj h
          refine hr _ rfl _ _ ?_
          simp only [gE, ↓gT, ↓reduceIte, reduceCtorEq, reduceAdd, reduceEqDiff, reduceLeDiff, reduceLT, RetP_def, eq_true hc29, eq_true (ix_nn h_e30), m_e30, eq_true (ix_nn h_e31), m_e31, eq_true hc32, hc34, hc36]
      · rw [if_neg hc34] at h
        replace hc34 := eq_false_of_ne_true hc34
        try simp only [gE, ↓gT, ↓reduceIte, reduceCtorEq, reduceAdd, reduceEqDiff, reduceLeDiff, reduceLT, eq_true hc29, eq_true (ix_nn h_e30), m_e30, eq_true (ix_nn h_e31), m_e31, eq_true hc32, hc34]; (repeat intro (_ : _ ≤ lim))
        refine SemF.cond rfl ?_
        simp only [gE, ↓gT, ↓reduceIte, reduceCtorEq, reduceAdd, reduceEqDiff, reduceLeDiff, reduceLT, eq_true hc29, eq_true (ix_nn h_e30), m_e30, eq_true (ix_nn h_e31), m_e31, eq_true hc32, hc34]
        refine SemF.seq rfl ?_
        refine SemF.reg true rfl ?_
        try simp only [gE, ↓gT, ↓reduceIte, reduceCtorEq, reduceAdd, reduceEqDiff, reduceLeDiff, reduceLT, eq_true hc29, eq_true (ix_nn h_e30), m_e30, eq_true (ix_nn h_e31), m_e31, eq_true hc32, hc34]; (repeat intro (_ : _ ≤ lim))
        refine SemF.ret rfl ?_
        try simp only [gE, ↓gT, ↓reduceIte, reduceCtorEq, reduceAdd, reduceEqDiff, reduceLeDiff, reduceLT, eq_true hc29, eq_true (ix_nn h_e30), m_e30, eq_true (ix_nn h_e31), m_e31, eq_true hc32, hc34]; (repeat intro (_ : _ ≤ lim))
        obtain rfl := Option.some.inj h
        refine hr _ rfl _ _ ?_
        simp only [gE, ↓gT, ↓reduceIte, reduceCtorEq, reduceAdd, reduceEqDiff, reduceLeDiff, reduceLT, RetP_def, eq_true hc29, eq_true (ix_nn h_e30), m_e30, eq_true (ix_nn h_e31), m_e31, eq_true hc32, hc34]
    · rw [if_neg hc32] at h
      try simp only [gE, ↓gT, ↓reduceIte, reduceCtorEq, reduceAdd, reduceEqDiff, reduceLeDiff, reduceLT, eq_true hc29, eq_true (ix_nn h_e30), m_e30, eq_true (ix_nn h_e31), m_e31, eq_false hc32]; (repeat intro (_ : _ ≤ lim))
      refine SemF.cond rfl ?_
      simp only [gE, ↓gT, ↓reduceIte, reduceCtorEq, reduceAdd, reduceEqDiff, reduceLeDiff, reduceLT, eq_true hc29, eq_true (ix_nn h_e30), m_e30, eq_true (ix_nn h_e31), m_e31, eq_false hc32]
      refine SemF.seq rfl ?_
      refine SemF.reg true rfl ?_
      try simp only [gE, ↓gT, ↓reduceIte, reduceCtorEq, reduceAdd, reduceEqDiff, reduceLeDiff, reduceLT, eq_true hc29, eq_true (ix_nn h_e30), m_e30, eq_true (ix_nn h_e31), m_e31, eq_false hc32]; (repeat intro (_ : _ ≤ lim))
      refine SemF.ret rfl ?_
      try simp only [gE, ↓gT, ↓reduceIte, reduceCtorEq, reduceAdd, reduceEqDiff, reduceLeDiff, reduceLT, eq_true hc29, eq_true (ix_nn h_e30), m_e30, eq_true (ix_nn h_e31), m_e31, eq_false hc32]; (repeat intro (_ : _ ≤ lim))
      obtain rfl := Option.some.inj h
      refine hr _ rfl _ _ ?_
      simp only [gE, ↓gT, ↓reduceIte, reduceCtorEq, reduceAdd, reduceEqDiff, reduceLeDiff, reduceLT, RetP_def, eq_true hc29, eq_true (ix_nn h_e30), m_e30, eq_true (ix_nn h_e31), m_e31, eq_false hc32]
  · rw [if_neg hc29] at h
    refine SemF.cond rfl ?_
    simp only [gE, ↓gT, ↓reduceIte, reduceCtorEq, reduceAdd, reduceEqDiff, reduceLeDiff, reduceLT, eq_false hc29]
    refine SemF.exit rfl ?_
    simp only [gE, ↓gT, ↓reduceIte, reduceCtorEq, reduceAdd, reduceEqDiff, reduceLeDiff, reduceLT, eq_false hc29]
    obtain rfl := Option.some.inj h
    refine hx _ rfl _ _ [] ⟨by simp only [gE, ↓gT, ↓reduceIte, reduceCtorEq, reduceAdd, reduceEqDiff, reduceLeDiff, reduceLT, hwT, selS, erT, eq_false hc29], by decide, by decide, by simp only [gE, ↓gT, ↓reduceIte, reduceCtorEq, reduceAdd, reduceEqDiff, reduceLeDiff, reduceLT, hwT, selS, erT, subR, eq_false hc29], by simp only [gE, ↓gT, ↓reduceIte, reduceCtorEq, reduceAdd, reduceEqDiff, reduceLeDiff, reduceLT, hwT, selS, erT, scT, esT, eq_false hc29], by simp only [gE, ↓gT, ↓reduceIte, reduceCtorEq, reduceAdd, reduceEqDiff, reduceLeDiff, reduceLT, hwT, selS, erT, scT, esT, eq_false hc29]⟩
theorem spec_SameExp_L0_step (f_spec_SameExp : (Exp × Exp) → Option Bool) (f_spec_SameExp_L0 : (Exp × Exp × Int) → Option (Sum Bool Unit)) (ih_spec_SameExp : ∀ (x : (Exp × Exp)) (r : Bool), f_spec_SameExp x = some r → HCp P F.spec_SameExp [(Exp.enc x.1), (Exp.enc x.2)] (HV.bool r)) (ih_spec_SameExp_L0 : ∀ (x : (Exp × Exp × Int)) (out : (Sum Bool Unit)), f_spec_SameExp_L0 x = some out → ∀ Q : HExit → Env → St → Prop, (∀ v, out = .inr v → ∀ env st sel, Weak 0 sel [(2, (.ptr 0 1 0 0)), (3, (.ptr 1 1 0 0))] [(.box (Exp.enc x.1)), (.box (Exp.enc x.2.1))] env st → Q (.exit 0) env st) → (∀ r, out = .inl r → ∀ env st, RetP [(4, none)] (HV.bool r) env st → Q .ret env st) → SemL P H.spec_SameExp.ntmps 0 H.spec_SameExp_l13 [(2, (.ptr 0 1 0 0)), (3, (.ptr 1 1 0 0)), (5, (.int .i64 x.2.2))] [(.box (Exp.enc x.1)), (.box (Exp.enc x.2.1))] Q) (x : (Exp × Exp × Int)) (out : (Sum Bool Unit)) (h : (if x.2.2 < ((x.1.L.length : Nat) : Int) then (ix x.1.L x.2.2 >>= fun e14 =>
    (ix x.2.1.L x.2.2 >>= fun e15 =>
    (f_spec_SameExp (e14, e15) >>= fun r16 =>
    (if r16 = true then f_spec_SameExp_L0 (x.1, x.2.1, (IntKind.i64.wrap (x.2.2 + 1))) else
    some (.inl false))))) else
    some (.inr ())) = some out) : ∀ Q : HExit → Env → St → Prop, (∀ v, out = .inr v → ∀ env st sel, Weak 0 sel [(2, (.ptr 0 1 0 0)), (3, (.ptr 1 1 0 0))] [(.box (Exp.enc x.1)), (.box (Exp.enc x.2.1))] env st → Q (.exit 0) env st) → (∀ r, out = .inl r → ∀ env st, RetP [(4, none)] (HV.bool r) env st → Q .ret env st) → SemL P H.spec_SameExp.ntmps 0 H.spec_SameExp_l13 [(2, (.ptr 0 1 0 0)), (3, (.ptr 1 1 0 0)), (5, (.int .i64 x.2.2))] [(.box (Exp.enc x.1)), (.box (Exp.enc x.2.1))] Q := by
  obtain ⟨p0, p1, t5_L0⟩ := x
  try dsimp only at h
  intro Q hx hr
  refine SemL.round ?_
  try dsimp only at hx
  refine SemF.seq rfl ?_
  refine SemF.seq rfl ?_
  refine SemF.reg true rfl ?_
  try simp only [gE, ↓gT, ↓reduceIte, reduceCtorEq, reduceAdd, reduceEqDiff, reduceLeDiff, reduceLT]; (repeat intro (_ : _ ≤ lim))
  (repeat intro (_ : _ ≤ lim))
  by_cases hc13 : t5_L0 < ((p0.L.length : Nat) : Int)
  · rw [if_pos hc13] at h
    refine SemF.cond rfl ?_
    simp only [gE, ↓gT, ↓reduceIte, reduceCtorEq, reduceAdd, reduceEqDiff, reduceLeDiff, reduceLT, eq_true hc13]
    refine SemF.skip rfl ?_
    simp only [gE, ↓gT, ↓reduceIte, reduceCtorEq, reduceAdd, reduceEqDiff, reduceLeDiff, reduceLT, eq_true hc13]
    refine SemF.seq rfl ?_
    refine SemF.block rfl ?_
    refine SemF.seq rfl ?_
    refine SemF.dreg true rfl ?_
    try simp only [gE, ↓gT, ↓reduceIte, reduceCtorEq, reduceAdd, reduceEqDiff, reduceLeDiff, reduceLT, eq_true hc13]; (repeat intro (_ : _ ≤ lim))
    obtain ⟨e14, h_e14, h⟩ := bs h
    have m_e14 := ixm (f := Exp.enc) (ix_get h_e14)
    try simp only [gE, ↓gT, ↓reduceIte, reduceCtorEq, reduceAdd, reduceEqDiff, reduceLeDiff, reduceLT, eq_true hc13, eq_true (ix_nn h_e14), m_e14]; (repeat intro (_ : _ ≤ lim))
    obtain ⟨e15, h_e15, h⟩ := bs h
    have m_e15 := ixm (f := Exp.enc) (ix_get h_e15)
    try simp only [gE, ↓gT, ↓reduceIte, reduceCtorEq, reduceAdd, reduceEqDiff, reduceLeDiff, reduceLT, eq_true hc13, eq_true (ix_nn h_e14), m_e14, eq_true (ix_nn h_e15), m_e15]; (repeat intro (_ : _ ≤ lim))
    obtain ⟨r16, h_r16, h⟩ := bs h
    refine HCp.callE (ih_spec_SameExp (e14, e15) r16 h_r16) (by simp only [gE, ↓gT, ↓reduceIte, reduceCtorEq, reduceAdd, reduceEqDiff, reduceLeDiff, reduceLT, eq_true hc13, eq_true (ix_nn h_e14), m_e14, eq_true (ix_nn h_e15), m_e15]) (by simp only [scT, esT, and_self, true_and, and_true]) (by simp only [scT, esT, and_self, true_and, and_true]) ?_
    try simp only [gE, ↓gT, ↓reduceIte, reduceCtorEq, reduceAdd, reduceEqDiff, reduceLeDiff, reduceLT, eq_true hc13, eq_true (ix_nn h_e14), m_e14, eq_true (ix_nn h_e15), m_e15]; (repeat intro (_ : _ ≤ lim))
    by_cases hc17 : r16 = true
    · rw [if_pos hc17] at h
      refine SemF.cond rfl ?_
      simp only [gE, ↓gT, ↓reduceIte, reduceCtorEq, reduceAdd, reduceEqDiff, reduceLeDiff, reduceLT, eq_true hc13, eq_true (ix_nn h_e14), m_e14, eq_true (ix_nn h_e15), m_e15, hc17]
      refine SemF.skip rfl ?_
      simp only [gE, ↓gT, ↓reduceIte, reduceCtorEq, reduceAdd, reduceEqDiff, reduceLeDiff, reduceLT, eq_true hc13, eq_true (ix_nn h_e14), m_e14, eq_true (ix_nn h_e15), m_e15, hc17]
      refine SemF.reg true rfl ?_
      try simp only [gE, ↓gT, ↓reduceIte, reduceCtorEq, reduceAdd, reduceEqDiff, reduceLeDiff, reduceLT, eq_true hc13, eq_true (ix_nn h_e14), m_e14, eq_true (ix_nn h_e15), m_e15, hc17]; (repeat intro (_ : _ ≤ lim))
      refine SemL.weak (sel := [0, 1]) ⟨by simp only [gE, ↓gT, ↓reduceIte, reduceCtorEq, reduceAdd, reduceEqDiff, reduceLeDiff, reduceLT, hwT, selS, erT, eq_true hc13, eq_true (ix_nn h_e14), m_e14, eq_true (ix_nn h_e15), m_e15, hc17], by decide, by decide, by simp only [gE, ↓gT, ↓reduceIte, reduceCtorEq, reduceAdd, reduceEqDiff, reduceLeDiff, reduceLT, hwT, selS, erT, subR, eq_true hc13, eq_true (ix_nn h_e14), m_e14, eq_true (ix_nn h_e15), m_e15, hc17], by simp only [gE, ↓gT, ↓reduceIte, reduceCtorEq, reduceAdd, reduceEqDiff, reduceLeDiff, reduceLT, hwT, selS, erT, scT, esT, eq_true hc13, eq_true (ix_nn h_e14), m_e14, eq_true (ix_nn h_e15), m_e15, hc17], by simp only [gE, ↓gT, ↓reduceIte, reduceCtorEq, reduceAdd, reduceEqDiff, reduceLeDiff, reduceLT, hwT, selS, erT, scT, esT, eq_true hc13, eq_true (ix_nn h_e14), m_e14, eq_true (ix_nn h_e15), m_e15, hc17]⟩ (ih_spec_SameExp_L0 (p0, p1, (IntKind.i64.wrap (t5_L0 + 1))) out h Q hx hr)
    · rw [if_neg hc17] at h
      replace hc17 := eq_false_of_ne_true hc17
      refine SemF.cond rfl ?_
      simp only [gE, ↓gT, ↓reduceIte, reduceCtorEq, reduceAdd, reduceEqDiff, reduceLeDiff, reduceLT, eq_true hc13, eq_true (ix_nn h_e14), m_e14, eq_true (ix_nn h_e15), m_e15, hc17]
      refine SemF.seq rfl ?_
      refine SemF.reg true rfl ?_
      try simp only [gE, ↓gT, ↓reduceIte, reduceCtorEq, reduceAdd, reduceEqDiff, reduceLeDiff, reduceLT, eq_true hc13, eq_true (ix_nn h_e14), m_e14, eq_true (ix_nn h_e15), m_e15, hc17]; (repeat intro (_ : _ ≤ lim))
      refine SemF.ret rfl ?_
      try simp only [gE, ↓gT, ↓reduceIte, reduceCtorEq, reduceAdd, reduceEqDiff, reduceLeDiff, reduceLT, eq_true hc13, eq_true (ix_nn h_e14), m_e14, eq_true (ix_nn h_e15), m_e15, hc17]; (repeat intro (_ : _ ≤ lim))
      obtain rfl := Option.some.inj h
      refine hr _ rfl _ _ ?_
      simp only [gE, ↓gT, ↓reduceIte, reduceCtorEq, reduceAdd, reduceEqDiff, reduceLeDiff, reduceLT, RetP_def, eq_true hc13, eq_true (ix_nn h_e14), m_e14, eq_true (ix_nn h_e15), m_e15, hc17]
  · rw [if_neg hc13] at h
    refine SemF.cond rfl ?_
    simp only [gE, ↓gT, ↓reduceIte, reduceCtorEq, reduceAdd, reduceEqDiff, reduceLeDiff, reduceLT, eq_false hc13]
    refine SemF.exit rfl ?_
    simp only [gE, ↓gT, ↓reduceIte, reduceCtorEq, reduceAdd, reduceEqDiff, reduceLeDiff, reduceLT, eq_false hc13]
    obtain rfl := Option.some.inj h
    refine hx _ rfl _ _ [0, 1] ⟨by simp only [gE, ↓gT, ↓reduceIte, reduceCtorEq, reduceAdd, reduceEqDiff, reduceLeDiff, reduceLT, hwT, selS, erT, eq_false hc13], by decide, by decide, by simp only [gE, ↓gT, ↓reduceIte, reduceCtorEq, reduceAdd, reduceEqDiff, reduceLeDiff, reduceLT, hwT, selS, erT, subR, eq_false hc13], by simp only [gE, ↓gT, ↓reduceIte, reduceCtorEq, reduceAdd, reduceEqDiff, reduceLeDiff, reduceLT, hwT, selS, erT, scT, esT, eq_false hc13], by simp only [gE, ↓gT, ↓reduceIte, reduceCtorEq, reduceAdd, reduceEqDiff, reduceLeDiff, reduceLT, hwT, selS, erT, scT, esT, eq_false hc13]⟩
theorem spec_l3SameDecs_step (f_spec_l3SameDecs_L0 : ((List Dec) × (List Dec) × Int) → Option (Sum Bool Unit)) (ih_spec_l3SameDecs_L0 : ∀ (x : ((List Dec) × (List Dec) × Int)) (out : (Sum Bool Unit)), f_spec_l3SameDecs_L0 x = some out → ∀ Q : HExit → Env → St → Prop, (∀ v, out = .inr v → ∀ env st sel, Weak 0 sel [] [] env st → Q (.exit 0) env st) → (∀ r, out = .inl r → ∀ env st, RetP [(4, none)] (HV.bool r) env st → Q .ret env st) → SemL P H.spec_l3SameDecs.ntmps 0 H.spec_l3SameDecs_l5 [(0, (.sl (List.map Dec.enc x.1))), (1, (.sl (List.map Dec.enc x.2.1))), (5, (.int .i64 x.2.2))] [] Q) (x : ((List Dec) × (List Dec))) (r : Bool) (h : (if ((x.1.length : Nat) : Int) = ((x.2.length : Nat) : Int) then (f_spec_l3SameDecs_L0 (x.1, x.2, 0) >>= fun s22 =>
    (match s22 with
    | .inl r23 => some r23
    | .inr v24 => some true)) else
    some false) = some r) : HCp P F.spec_l3SameDecs [(.sl (List.map Dec.enc x.1)), (.sl (List.map Dec.enc x.2))] (HV.bool r) := by
  obtain ⟨p0, p1⟩ := x
  try dsimp only at h
  refine HCp.mkF S.spec_l3SameDecs (by simp [H.spec_l3SameDecs]) (by simp only [scT, esT, and_self, true_and, and_true]) ?_
  simp only [gE, ↓gT, ↓reduceIte, reduceCtorEq, reduceAdd, reduceEqDiff, reduceLeDiff, reduceLT, H.spec_l3SameDecs]
  refine SemF.seq rfl ?_
  refine SemF.reg true rfl ?_
  try simp only [gE, ↓gT, ↓reduceIte, reduceCtorEq, reduceAdd, reduceEqDiff, reduceLeDiff, reduceLT]; (repeat intro (_ : _ ≤ lim))
  refine SemF.seq rfl ?_
  refine SemF.seq rfl ?_
  refine SemF.reg true rfl ?_
  try simp only [gE, ↓gT, ↓reduceIte, reduceCtorEq, reduceAdd, reduceEqDiff, reduceLeDiff, reduceLT]; (repeat intro (_ : _ ≤ lim))
  (repeat intro (_ : _ ≤ lim))
  (repeat intro (_ : _ ≤ lim))
  by_cases hc1 : ((p0.length : Nat) : Int) = ((p1.length : Nat) : Int)
  · rw [if_pos hc1] at h
    refine SemF.cond rfl ?_
    simp only [gE, ↓gT, ↓reduceIte, reduceCtorEq, reduceAdd, reduceEqDiff, reduceLeDiff, reduceLT, eq_true hc1]
    refine SemF.skip rfl ?_
    simp only [gE, ↓gT, ↓reduceIte, reduceCtorEq, reduceAdd, reduceEqDiff, reduceLeDiff, reduceLT, eq_true hc1]
    refine SemF.seq rfl ?_
    refine SemF.seq rfl ?_
    refine SemF.reg true rfl ?_
    try simp only [gE, ↓gT, ↓reduceIte, reduceCtorEq, reduceAdd, reduceEqDiff, reduceLeDiff, reduceLT, eq_true hc1]; (repeat intro (_ : _ ≤ lim))
    refine SemF.block rfl ?_
    obtain ⟨s22, h_s22, h⟩ := bs h
    rcases s22 with r23 | v24
    · dsimp only at h
      refine SemF.loop rfl ?_
      refine SemL.weak (sel := []) ⟨by simp only [gE, ↓gT, ↓reduceIte, reduceCtorEq, reduceAdd, reduceEqDiff, reduceLeDiff, reduceLT, hwT, selS, erT, eq_true hc1], by decide, by decide, by simp only [gE, ↓gT, ↓reduceIte, reduceCtorEq, reduceAdd, reduceEqDiff, reduceLeDiff, reduceLT, hwT, selS, erT, subR, eq_true hc1], by simp only [gE, ↓gT, ↓reduceIte, reduceCtorEq, reduceAdd, reduceEqDiff, reduceLeDiff, reduceLT, hwT, selS, erT, scT, esT, eq_true hc1], by simp only [gE, ↓gT, ↓reduceIte, reduceCtorEq, reduceAdd, reduceEqDiff, reduceLeDiff, reduceLT, hwT, selS, erT, scT, esT, eq_true hc1]⟩ (ih_spec_l3SameDecs_L0 (p0, p1, 0) (.inl r23) h_s22 _ ?_ ?_)
      · intro v hv; cases hv
      · intro r' hr' env st hy
        cases hr'
        simp only [gE, ↓gT, ↓reduceIte, reduceCtorEq, reduceAdd, reduceEqDiff, reduceLeDiff, reduceLT]
        obtain rfl := Option.some.inj h
        exact hy
    · dsimp only at h
      refine SemF.loop rfl ?_
      refine SemL.weak (sel := []) ⟨by simp only [gE, ↓gT, ↓reduceIte, reduceCtorEq, reduceAdd, reduceEqDiff, reduceLeDiff, reduceLT, hwT, selS, erT, eq_true hc1], by decide, by decide, by simp only [gE, ↓gT, ↓reduceIte, reduceCtorEq, reduceAdd, reduceEqDiff, reduceLeDiff, reduceLT, hwT, selS, erT, subR, eq_true hc1], by simp only [gE, ↓gT, ↓reduceIte, reduceCtorEq, reduceAdd, reduceEqDiff, reduceLeDiff, reduceLT, hwT, selS, erT, scT, esT, eq_true hc1], by simp only [gE, ↓gT, ↓reduceIte, reduceCtorEq, reduceAdd, reduceEqDiff, reduceLeDiff, reduceLT, hwT, selS, erT, scT, esT, eq_true hc1]⟩ (ih_spec_l3SameDecs_L0 (p0, p1, 0) (.inr v24) h_s22 _ ?_ ?_)
      rotate_left
      · intro r' hr'; cases hr'
      intro v hv env st sel hw
      cases hv
      simp only [gE, ↓gT, ↓reduceIte, reduceCtorEq, reduceAdd, reduceEqDiff, reduceLeDiff, reduceLT]
      first | refine SemF.weak hw ?_ | refine SemL.weak hw ?_
      refine SemF.seq rfl ?_
      refine SemF.reg true rfl ?_
      try simp only [gE, ↓gT, ↓reduceIte, reduceCtorEq, reduceAdd, reduceEqDiff, reduceLeDiff, reduceLT, eq_true hc1]; (repeat intro (_ : _ ≤ lim))
      refine SemF.ret rfl ?_
      try simp only [gE, ↓gT, ↓reduceIte, reduceCtorEq, reduceAdd, reduceEqDiff, reduceLeDiff, reduceLT, eq_true hc1]; (repeat intro (_ : _ ≤ lim))
      obtain rfl := Option.some.inj h
      simp only [gE, ↓gT, ↓reduceIte, reduceCtorEq, reduceAdd, reduceEqDiff, reduceLeDiff, reduceLT, RetP_def, eq_true hc1]
  · rw [if_neg hc1] at h
    refine SemF.cond rfl ?_
    simp only [gE, ↓gT, ↓reduceIte, reduceCtorEq, reduceAdd, reduceEqDiff, reduceLeDiff, reduceLT, eq_false hc1]
    refine SemF.seq rfl ?_
    refine SemF.reg true rfl ?_
    try simp only [gE, ↓gT, ↓reduceIte, reduceCtorEq, reduceAdd, reduceEqDiff, reduceLeDiff, reduceLT, eq_false hc1]; (repeat intro (_ : _ ≤ lim))
    refine SemF.ret rfl ?_
    try simp only [gE, ↓gT, ↓reduceIte, reduceCtorEq, reduceAdd, reduceEqDiff, reduceLeDiff, reduceLT, eq_false hc1]; (repeat intro (_ : _ ≤ lim))
    obtain rfl := Option.some.inj h
    simp only [gE, ↓gT, ↓reduceIte, reduceCtorEq, reduceAdd, reduceEqDiff, reduceLeDiff, reduceLT, RetP_def, eq_false hc1]
end K
end W
