import Derived.Test.YtnhdobhfebiggaaEPrf14
namespace W
set_option linter.unusedSimpArgs false
set_option linter.unusedVariables false
open Go HL S
open Nat (reduceAdd reduceEqDiff reduceLeDiff reduceSub reduceMul reduceLT)
set_option linter.unusedVariables false
set_option maxRecDepth 100000
set_option maxHeartbeats 4000000
namespace K
theorem spec_l3SameDecs_L0_step (f_spec_SameExp : (Exp × Exp) → Option Bool) (f_spec_l3SameDecs : ((List Dec) × (List Dec)) → Option Bool) (f_spec_l3SameDecs_L0 : ((List Dec) × (List Dec) × Int) → Option (Sum Bool Unit)) (ih_spec_SameExp : ∀ (x : (Exp × Exp)) (r : Bool), f_spec_SameExp x = some r → HCp P F.spec_SameExp [(Exp.enc x.1), (Exp.enc x.2)] (HV.bool r)) (ih_spec_l3SameDecs : ∀ (x : ((List Dec) × (List Dec))) (r : Bool), f_spec_l3SameDecs x = some r → HCp P F.spec_l3SameDecs [(.sl (List.map Dec.enc x.1)), (.sl (List.map Dec.enc x.2))] (HV.bool r)) (ih_spec_l3SameDecs_L0 : ∀ (x : ((List Dec) × (List Dec) × Int)) (out : (Sum Bool Unit)), f_spec_l3SameDecs_L0 x = some out → ∀ Q : HExit → Env → St → Prop, (∀ v, out = .inr v → ∀ env st sel, Weak 0 sel [] [] env st → Q (.exit 0) env st) → (∀ r, out = .inl r → ∀ env st, RetP [(4, none)] (HV.bool r) env st → Q .ret env st) → SemL P H.spec_l3SameDecs.ntmps 0 H.spec_l3SameDecs_l5 [(0, (.sl (List.map Dec.enc x.1))), (1, (.sl (List.map Dec.enc x.2.1))), (5, (.int .i64 x.2.2))] [] Q) (x : ((List Dec) × (List Dec) × Int)) (out : (Sum Bool Unit)) (h : (if x.2.2 < ((x.1.length : Nat) : Int) then (ix x.1 x.2.2 >>= fun e13 =>
    (ix x.2.1 x.2.2 >>= fun e14 =>
    (if e13.Name = e14.Name then (M.spec_l3SameTexts (e13.Pars, e14.Pars) >>= fun r16 =>
    (if r16 = true then (f_spec_SameExp (e13.E, e14.E) >>= fun r18 =>
    (if r18 = true then (f_spec_l3SameDecs (e13.Where, e14.Where) >>= fun r20 =>
    (if r20 = true then f_spec_l3SameDecs_L0 (x.1, x.2.1, (IntKind.i64.wrap (x.2.2 + 1))) else
    some (.inl false))) else
    some (.inl false))) else
    some (.inl false))) else
    some (.inl false)))) else
    some (.inr ())) = some out) : ∀ Q : HExit → Env → St → Prop, (∀ v, out = .inr v → ∀ env st sel, Weak 0 sel [] [] env st → Q (.exit 0) env st) → (∀ r, out = .inl r → ∀ env st, RetP [(4, none)] (HV.bool r) env st → Q .ret env st) → SemL P H.spec_l3SameDecs.ntmps 0 H.spec_l3SameDecs_l5 [(0, (.sl (List.map Dec.enc x.1))), (1, (.sl (List.map Dec.enc x.2.1))), (5, (.int .i64 x.2.2))] [] Q := by
  obtain ⟨p0, p1, t5_L0⟩ := x
  try dsimp only at h
  intro Q hx hr
  refine SemL.round ?_
  try dsimp only at hx
  refine SemF.seq rfl ?_
  refine SemF.seq rfl ?_
  refine SemF.reg true rfl ?_
  try simp only [gE, ↓gT, ↓reduceIte, reduceCtorEq, reduceAdd, reduceEqDiff, reduceLeDiff, reduceLT]; (repeat intro (_ : _ ≤ lim))
  (repeat intro (_ : _ ≤ lim))
  by_cases hc12 : t5_L0 < ((p0.length : Nat) : Int)
  · rw [if_pos hc12] at h
    refine SemF.cond rfl ?_
    simp only [gE, ↓gT, ↓reduceIte, reduceCtorEq, reduceAdd, reduceEqDiff, reduceLeDiff, reduceLT, eq_true hc12]
    refine SemF.skip rfl ?_
    simp only [gE, ↓gT, ↓reduceIte, reduceCtorEq, reduceAdd, reduceEqDiff, reduceLeDiff, reduceLT, eq_true hc12]
    refine SemF.seq rfl ?_
    refine SemF.block rfl ?_
    refine SemF.seq rfl ?_
    refine SemF.dreg true rfl ?_
    try simp only [gE, ↓gT, ↓reduceIte, reduceCtorEq, reduceAdd, reduceEqDiff, reduceLeDiff, reduceLT, eq_true hc12]; (repeat intro (_ : _ ≤ lim))
    obtain ⟨e13, h_e13, h⟩ := bs h
    have m_e13 := ixm (f := Dec.enc) (ix_get h_e13)
    try simp only [gE, ↓gT, ↓reduceIte, reduceCtorEq, reduceAdd, reduceEqDiff, reduceLeDiff, reduceLT, eq_true hc12, eq_true (ix_nn h_e13), m_e13]; (repeat intro (_ : _ ≤ lim))
    obtain ⟨e14, h_e14, h⟩ := bs h
    have m_e14 := ixm (f := Dec.enc) (ix_get h_e14)
    try simp only [gE, ↓gT, ↓reduceIte, reduceCtorEq, reduceAdd, reduceEqDiff, reduceLeDiff, reduceLT, eq_true hc12, eq_true (ix_nn h_e13), m_e13, eq_true (ix_nn h_e14), m_e14]; (repeat intro (_ : _ ≤ lim))
    by_cases hc15 : e13.Name = e14.Name
    · rw [if_pos hc15] at h
      try simp only [gE, ↓gT, ↓reduceIte, reduceCtorEq, reduceAdd, reduceEqDiff, reduceLeDiff, reduceLT, eq_true hc12, eq_true (ix_nn h_e13), m_e13, eq_true (ix_nn h_e14), m_e14, eq_true hc15]; (repeat intro (_ : _ ≤ lim))
      obtain ⟨r16, h_r16, h⟩ := bs h
      refine HCp.callE (K.spec_l3SameTexts (e13.Pars, e14.Pars) r16 h_r16) (by simp only [gE, ↓gT, ↓reduceIte, reduceCtorEq, reduceAdd, reduceEqDiff, reduceLeDiff, reduceLT, eq_true hc12, eq_true (ix_nn h_e13), m_e13, eq_true (ix_nn h_e14), m_e14, eq_true hc15]) (by simp only [scT, esT, and_self, true_and, and_true]) (by simp only [scT, esT, and_self, true_and, and_true]) ?_
      try simp only [gE, ↓gT, ↓reduceIte, reduceCtorEq, reduceAdd, reduceEqDiff, reduceLeDiff, reduceLT, eq_true hc12, eq_true (ix_nn h_e13), m_e13, eq_true (ix_nn h_e14), m_e14, eq_true hc15]; (repeat intro (_ : _ ≤ lim))
      by_cases hc17 : r16 = true
      · rw [if_pos hc17] at h
        try simp only [gE, ↓gT, ↓reduceIte, reduceCtorEq, reduceAdd, reduceEqDiff, reduceLeDiff, reduceLT, eq_true hc12, eq_true (ix_nn h_e13), m_e13, eq_true (ix_nn h_e14), m_e14, eq_true hc15, hc17]; (repeat intro (_ : _ ≤ lim))
        obtain ⟨r18, h_r18, h⟩ := bs h
        refine HCp.callE (ih_spec_SameExp (e13.E, e14.E) r18 h_r18) (by simp only [gE, ↓gT, ↓reduceIte, reduceCtorEq, reduceAdd, reduceEqDiff, reduceLeDiff, reduceLT, eq_true hc12, eq_true (ix_nn h_e13), m_e13, eq_true (ix_nn h_e14), m_e14, eq_true hc15, hc17]) (by simp only [scT, esT, and_self, true_and, and_true]) (by simp only [scT, esT, and_self, true_and, and_true]) ?_
        try simp only [gE, ↓gT, ↓reduceIte, reduceCtorEq, reduceAdd, reduceEqDiff, reduceLeDiff, reduceLT, eq_true hc12, eq_true (ix_nn h_e13), m_e13, eq_true (ix_nn h_e14), m_e14, eq_true hc15, hc17]; (repeat intro (_ : _ ≤ lim))
        by_cases hc19 : r18 = true
        · rw [if_pos hc19] at h
          try simp only [gE, ↓gT, ↓reduceIte, reduceCtorEq, reduceAdd, reduceEqDiff, reduceLeDiff, reduceLT, eq_true hc12, eq_true (ix_nn h_e13), m_e13, eq_true (ix_nn h_e14), m_e14, eq_true hc15, hc17, hc19]; (repeat intro (_ : _ ≤ lim))
          obtain ⟨r20, h_r20, h⟩ := bs h
          refine HCp.callE (ih_spec_l3SameDecs (e13.Where, e14.Where) r20 h_r20) (by simp only [gE, ↓gT, ↓reduceIte, reduceCtorEq, reduceAdd, reduceEqDiff, reduceLeDiff, reduceLT, eq_true hc12, eq_true (ix_nn h_e13), m_e13, eq_true (ix_nn h_e14), m_e14, eq_true hc15, hc17, hc19]) (by simp only [scT, esT, and_self, true_and, and_true]) (by simp only [scT, esT, and_self, true_and, and_true]) ?_
          try simp only [gE, ↓gT, ↓reduceIte, reduceCtorEq, reduceAdd, reduceEqDiff, reduceLeDiff, reduceLT, eq_true hc12, eq_true (ix_nn h_e13), m_e13, eq_true (ix_nn h_e14), m_e14, eq_true hc15, hc17, hc19]; (repeat intro (_ : _ ≤ lim))
          by_cases hc21 : r20 = true
          · rw [if_pos hc21] at h
            refine SemF.cond rfl ?_
            simp only [gE, ↓gT, ↓reduceIte, reduceCtorEq, reduceAdd, reduceEqDiff, reduceLeDiff, reduceLT, eq_true hc12, eq_true (ix_nn h_e13), m_e13, eq_true (ix_nn h_e14), m_e14, eq_true hc15, hc17, hc19, hc21]
            refine SemF.skip rfl ?_
            simp only [gE, ↓gT, ↓reduceIte, reduceCtorEq, reduceAdd, reduceEqDiff, reduceLeDiff, reduceLT, eq_true hc12, eq_true (ix_nn h_e13), m_e13, eq_true (ix_nn h_e14), m_e14, eq_true hc15, hc17, hc19, hc21]
            refine SemF.reg true rfl ?_
            try simp only [gE, ↓gT, ↓reduceIte, reduceCtorEq, reduceAdd, reduceEqDiff, reduceLeDiff, reduceLT, eq_true hc12, eq_true (ix_nn h_e13), m_e13, eq_true (ix_nn h_e14), m_e14, eq_true hc15, hc17, hc19, hc21]; (repeat intro (_ : _ ≤ lim))
            refine SemL.weak (sel := []) ⟨by simp only [gE, ↓gT, ↓reduceIte, reduceCtorEq, reduceAdd, reduceEqDiff, reduceLeDiff, reduceLT, hwT, selS, erT, eq_true hc12, eq_true (ix_nn h_e13), m_e13, eq_true (ix_nn h_e14), m_e14, eq_true hc15, hc17, hc19, hc21], by decide, by decide, by simp only [gE, ↓gT, ↓reduceIte, reduceCtorEq, reduceAdd, reduceEqDiff, reduceLeDiff, reduceLT, hwT, selS, erT, subR, eq_true hc12, eq_true (ix_nn h_e13), m_e13, eq_true (ix_nn h_e14), m_e14, eq_true hc15, hc17, hc19, hc21], by simp only [gE, ↓gT, ↓reduceIte, reduceCtorEq, reduceAdd, reduceEqDiff, reduceLeDiff, reduceLT, hwT, selS, erT, scT, esT, eq_true hc12, eq_true (ix_nn h_e13), m_e13, eq_true (ix_nn h_e14), m_e14, eq_true hc15, hc17, hc19, hc21], by simp only [gE, ↓gT, ↓reduceIte, reduceCtorEq, reduceAdd, reduceEqDiff, reduceLeDiff, reduceLT, hwT, selS, erT, scT, esT, eq_true hc12, eq_true (ix_nn h_e13), m_e13, eq_true (ix_nn h_e14), m_e14, eq_true hc15, hc17, hc19, hc21]⟩ (ih_spec_l3SameDecs_L0 (p0, p1, (IntKind.i64.wrap (t5_L0 + 1))) out h Q hx hr)
          · rw [if_neg hc21] at h
            replace hc21 := eq_false_of_ne_true hc21
            refine SemF.cond rfl ?_
            simp only [gE, ↓gT, ↓reduceIte, reduceCtorEq, reduceAdd, reduceEqDiff, reduceLeDiff, reduceLT, eq_true hc12, eq_true (ix_nn h_e13), m_e13, eq_true (ix_nn h_e14), m_e14, eq_true hc15, hc17, hc19, hc21]
            refine SemF.seq rfl ?_
            refine SemF.reg true rfl ?_
            try simp only [gE, ↓gT, ↓reduceIte, reduceCtorEq, reduceAdd, reduceEqDiff, reduceLeDiff, reduceLT, eq_true hc12, eq_true (ix_nn h_e13), m_e13, eq_true (ix_nn h_e14), m_e14, eq_true hc15, hc17, hc19, hc21]; (repeat intro (_ : _ ≤ lim))
            refine SemF.ret rfl ?_
            try simp only [gE, ↓gT, ↓reduceIte, reduceCtorEq, reduceAdd, reduceEqDiff, reduceLeDiff, reduceLT, eq_true hc12, eq_true (ix_nn h_e13), m_e13, eq_true (ix_nn h_e14), m_e14, eq_true hc15, hc17, hc19, hc21]; (repeat intro (_ : _ ≤ lim))
            obtain rfl := Option.some.inj h
            refine hr _ rfl _ _ ?_
            simp only [gE, ↓gT, ↓reduceIte, reduceCtorEq, reduceAdd, reduceEqDiff, reduceLeDiff, reduceLT, RetP_def, eq_true hc12, eq_true (ix_nn h_e13), m_e13, eq_true (ix_nn h_e14), m_e14, eq_true hc15, hc17, hc19, hc21]
        · rw [if_neg hc19] at h
          replace hc19 := eq_false_of_ne_true hc19
          try simp only [gE, ↓gT, ↓reduceIte, reduceCtorEq, reduceAdd, reduceEqDiff, reduceLeDiff, reduceLT, eq_true hc12, eq_true (ix_nn h_e13), m_e13, eq_true (ix_nn h_e14), m_e14, eq_true hc15, hc17, hc19]; (repeat intro (_ : _ ≤ lim))
          refine SemF.cond rfl ?_
          simp only [gE, ↓gT, ↓reduceIte, reduceCtorEq, reduceAdd, reduceEqDiff, reduceLeDiff, reduceLT, eq_true hc12, eq_true (ix_nn h_e13), m_e13, eq_true (ix_nn h_e14), m_e14, eq_true hc15, hc17, hc19]
          refine SemF.seq rfl ?_
          refine SemF.reg true rfl ?_
          try simp only [gE, ↓gT, ↓reduceIte, reduceCtorEq, reduceAdd, reduceEqDiff, reduceLeDiff, reduceLT, eq_true hc12, eq_true (ix_nn h_e13), m_e13, eq_true (ix_nn h_e14), m_e14, eq_true hc15, hc17, hc19]; (repeat intro (_ : _ ≤ lim))
          refine SemF.ret rfl ?_
          try simp only [gE, ↓gT, ↓reduceIte, reduceCtorEq, reduceAdd, reduceEqDiff, reduceLeDiff, reduceLT, eq_true hc12, eq_true (ix_nn h_e13), m_e13, eq_true (ix_nn h_e14), m_e14, eq_true hc15, hc17, hc19]; (repeat intro (_ : _ ≤ lim))
          obtain rfl := Option.some.inj h
          refine hr _ rfl _ _ ?_
          simp only [gE, ↓gT, ↓reduceIte, reduceCtorEq, reduceAdd, reduceEqDiff, reduceLeDiff, reduceLT, RetP_def, eq_true hc12, eq_true (ix_nn h_e13), m_e13, eq_true (ix_nn h_e14), m_e14, eq_true hc15, hc17, hc19]
      · rw [if_neg hc17] at h
        replace hc17 := eq_false_of_ne_true hc17
        try simp only [gE, ↓gT, ↓reduceIte, reduceCtorEq, reduceAdd, reduceEqDiff, reduceLeDiff, reduceLT, eq_true hc12, eq_true (ix_nn h_e13), m_e13, eq_true (ix_nn h_e14), m_e14, eq_true hc15, hc17]; (repeat intro (_ : _ ≤ lim))
        refine SemF.cond rfl ?_
        simp only [gE, ↓gT, ↓reduceIte, reduceCtorEq, reduceAdd, reduceEqDiff, reduceLeDiff, reduceLT, eq_true hc12, eq_true (ix_nn h_e13), m_e13, eq_true (ix_nn h_e14), m_e14, eq_true hc15, hc17]
        refine SemF.seq rfl ?_
        refine SemF.reg true rfl ?_
        try simp only [gE, ↓gT, ↓reduceIte, reduceCtorEq, reduceAdd, reduceEqDiff, reduceLeDiff, reduceLT, eq_true hc12, eq_true (ix_nn h_e13), m_e13, eq_true (ix_nn h_e14), m_e14, eq_true hc15, hc17]; (repeat intro (_ : _ ≤ lim))
        refine SemF.ret rfl ?_
        try simp only [gE, ↓gT, ↓reduceIte, reduceCtorEq, reduceAdd, reduceEqDiff, reduceLeDiff, reduceLT, eq_true hc12, eq_true (ix_nn h_e13), m_e13, eq_true (ix_nn h_e14), m_e14, eq_true hc15, hc17]; (repeat intro (_ : _ ≤ lim))
        obtain rfl := Option.some.inj h
        refine hr _ rfl _ _ ?_
        simp only [gE, ↓gT, ↓reduceIte, reduceCtorEq, reduceAdd, reduceEqDiff, reduceLeDiff, reduceLT, RetP_def, eq_true hc12, eq_true (ix_nn h_e13), m_e13, eq_true (ix_nn h_e14), m_e14, eq_true hc15, hc17]
    · rw [if_neg hc15] at h
      try simp only [gE, ↓gT, ↓reduceIte, reduceCtorEq, reduceAdd, reduceEqDiff, reduceLeDiff, reduceLT, eq_true hc12, eq_true (ix_nn h_e13), m_e13, eq_true (ix_nn h_e14), m_e14, eq_false hc15]; (repeat intro (_ : _ ≤ lim))
      refine SemF.cond rfl ?_
      simp only [gE, ↓gT, ↓reduceIte, reduceCtorEq, reduceAdd, reduceEqDiff, reduceLeDiff, reduceLT, eq_true hc12, eq_true (ix_nn h_e13), m_e13, eq_true (ix_nn h_e14), m_e14, eq_false hc15]
      refine SemF.seq rfl ?_
      refine SemF.reg true rfl ?_
      try simp only [gE, ↓gT, ↓reduceIte, reduceCtorEq, reduceAdd, reduceEqDiff, reduceLeDiff, reduceLT, eq_true hc12, eq_true (ix_nn h_e13), m_e13, eq_true (ix_nn h_e14), m_e14, eq_false hc15]; (repeat intro (_ : _ ≤ lim))
      refine SemF.ret rfl ?_
      try simp only [gE, ↓gT, ↓reduceIte, reduceCtorEq, reduceAdd, reduceEqDiff, reduceLeDiff, reduceLT, eq_true hc12, eq_true (ix_nn h_e13), m_e13, eq_true (ix_nn h_e14), m_e14, eq_false hc15]; (repeat intro (_ : _ ≤ lim))
      obtain rfl := Option.some.inj h
      refine hr _ rfl _ _ ?_
      simp only [gE, ↓gT, ↓reduceIte, reduceCtorEq, reduceAdd, reduceEqDiff, reduceLeDiff, reduceLT, RetP_def, eq_true hc12, eq_true (ix_nn h_e13), m_e13, eq_true (ix_nn h_e14), m_e14, eq_false hc15]
  · rw [if_neg hc12] at h
    refine SemF.cond rfl ?_
    simp only [gE, ↓gT, ↓reduceIte, reduceCtorEq, reduceAdd, reduceEqDiff, reduceLeDiff, reduceLT, eq_false hc12]
    refine SemF.exit rfl ?_
    simp only [gE, ↓gT, ↓reduceIte, reduceCtorEq, reduceAdd, reduceEqDiff, reduceLeDiff, reduceLT, eq_false hc12]
    obtain rfl := Option.some.inj h
    refine hx _ rfl _ _ [] ⟨by simp only [gE, ↓gT, ↓reduceIte, reduceCtorEq, reduceAdd, reduceEqDiff, reduceLeDiff, reduceLT, hwT, selS, erT, eq_false hc12], by decide, by decide, by simp only [gE, ↓gT, ↓reduceIte, reduceCtorEq, reduceAdd, reduceEqDiff, reduceLeDiff, reduceLT, hwT, selS, erT, subR, eq_false hc12], by simp only [gE, ↓gT, ↓reduceIte, reduceCtorEq, reduceAdd, reduceEqDiff, reduceLeDiff, reduceLT, hwT, selS, erT, scT, esT, eq_false hc12], by simp only [gE, ↓gT, ↓reduceIte, reduceCtorEq, reduceAdd, reduceEqDiff, reduceLeDiff, reduceLT, hwT, selS, erT, scT, esT, eq_false hc12]⟩
theorem spec_SameExp_all : (∀ (x : (Exp × Exp)) (r : Bool), M.spec_SameExp x = some r → HCp P F.spec_SameExp [(Exp.enc x.1), (Exp.enc x.2)] (HV.bool r)) ∧
  (∀ (x : (Exp × Exp × Int)) (out : (Sum Bool Unit)), M.spec_SameExp_L1 x = some out → ∀ Q : HExit → Env → St → Prop, (∀ v, out = .inr v → ∀ env st sel, Weak 0 sel [] [] env st → Q (.exit 2) env st) → (∀ r, out = .inl r → ∀ env st, RetP [(4, none)] (HV.bool r) env st → Q .ret env st) → SemL P H.spec_SameExp.ntmps 0 H.spec_SameExp_l6 [(2, (.ptr 0 1 0 0)), (3, (.ptr 1 1 0 0)), (6, (.int .i64 x.2.2))] [(.box (Exp.enc x.1)), (.box (Exp.enc x.2.1))] Q) ∧
  (∀ (x : (Exp × Exp × Int)) (out : (Sum Bool Unit)), M.spec_SameExp_L0 x = some out → ∀ Q : HExit → Env → St → Prop, (∀ v, out = .inr v → ∀ env st sel, Weak 0 sel [(2, (.ptr 0 1 0 0)), (3, (.ptr 1 1 0 0))] [(.box (Exp.enc x.1)), (.box (Exp.enc x.2.1))] env st → Q (.exit 0) env st) → (∀ r, out = .inl r → ∀ env st, RetP [(4, none)] (HV.bool r) env st → Q .ret env st) → SemL P H.spec_SameExp.ntmps 0 H.spec_SameExp_l13 [(2, (.ptr 0 1 0 0)), (3, (.ptr 1 1 0 0)), (5, (.int .i64 x.2.2))] [(.box (Exp.enc x.1)), (.box (Exp.enc x.2.1))] Q) ∧
  (∀ (x : ((List Dec) × (List Dec))) (r : Bool), M.spec_l3SameDecs x = some r → HCp P F.spec_l3SameDecs [(.sl (List.map Dec.enc x.1)), (.sl (List.map Dec.enc x.2))] (HV.bool r)) ∧
  (∀ (x : ((List Dec) × (List Dec) × Int)) (out : (Sum Bool Unit)), M.spec_l3SameDecs_L0 x = some out → ∀ Q : HExit → Env → St → Prop, (∀ v, out = .inr v → ∀ env st sel, Weak 0 sel [] [] env st → Q (.exit 0) env st) → (∀ r, out = .inl r → ∀ env st, RetP [(4, none)] (HV.bool r) env st → Q .ret env st) → SemL P H.spec_l3SameDecs.ntmps 0 H.spec_l3SameDecs_l5 [(0, (.sl (List.map Dec.enc x.1))), (1, (.sl (List.map Dec.enc x.2.1))), (5, (.int .i64 x.2.2))] [] Q) := by
  refine M.spec_SameExp.mutual_partial_correctness (motive_1 := fun x r => HCp P F.spec_SameExp [(Exp.enc x.1), (Exp.enc x.2)] (HV.bool r)) (motive_2 := fun x out => ∀ Q : HExit → Env → St → Prop, (∀ v, out = .inr v → ∀ env st sel, Weak 0 sel [] [] env st → Q (.exit 2) env st) → (∀ r, out = .inl r → ∀ env st, RetP [(4, none)] (HV.bool r) env st → Q .ret env st) → SemL P H.spec_SameExp.ntmps 0 H.spec_SameExp_l6 [(2, (.ptr 0 1 0 0)), (3, (.ptr 1 1 0 0)), (6, (.int .i64 x.2.2))] [(.box (Exp.enc x.1)), (.box (Exp.enc x.2.1))] Q) (motive_3 := fun x out => ∀ Q : HExit → Env → St → Prop, (∀ v, out = .inr v → ∀ env st sel, Weak 0 sel [(2, (.ptr 0 1 0 0)), (3, (.ptr 1 1 0 0))] [(.box (Exp.enc x.1)), (.box (Exp.enc x.2.1))] env st → Q (.exit 0) env st) → (∀ r, out = .inl r → ∀ env st, RetP [(4, none)] (HV.bool r) env st → Q .ret env st) → SemL P H.spec_SameExp.ntmps 0 H.spec_SameExp_l13 [(2, (.ptr 0 1 0 0)), (3, (.ptr 1 1 0 0)), (5, (.int .i64 x.2.2))] [(.box (Exp.enc x.1)), (.box (Exp.enc x.2.1))] Q) (motive_4 := fun x r => HCp P F.spec_l3SameDecs [(.sl (List.map Dec.enc x.1)), (.sl (List.map Dec.enc x.2))] (HV.bool r)) (motive_5 := fun x out => ∀ Q : HExit → Env → St → Prop, (∀ v, out = .inr v → ∀ env st sel, Weak 0 sel [] [] env st → Q (.exit 0) env st) → (∀ r, out = .inl r → ∀ env st, RetP [(4, none)] (HV.bool r) env st → Q .ret env st) → SemL P H.spec_l3SameDecs.ntmps 0 H.spec_l3SameDecs_l5 [(0, (.sl (List.map Dec.enc x.1))), (1, (.sl (List.map Dec.enc x.2.1))), (5, (.int .i64 x.2.2))] [] Q) ?_ ?_ ?_ ?_ ?_
  · exact fun f_spec_SameExp_L1 f_spec_SameExp_L0 f_spec_l3SameDecs ih_spec_SameExp_L1 ih_spec_SameExp_L0 ih_spec_l3SameDecs x r h => K.spec_SameExp_step f_spec_SameExp_L1 f_spec_SameExp_L0 f_spec_l3SameDecs ih_spec_SameExp_L1 ih_spec_SameExp_L0 ih_spec_l3SameDecs x r h
  · exact fun f_spec_SameExp f_spec_SameExp_L1 ih_spec_SameExp ih_spec_SameExp_L1 x out h => K.spec_SameExp_L1_step f_spec_SameExp f_spec_SameExp_L1 ih_spec_SameExp ih_spec_SameExp_L1 x out h
  · exact fun f_spec_SameExp f_spec_SameExp_L0 ih_spec_SameExp ih_spec_SameExp_L0 x out h => K.spec_SameExp_L0_step f_spec_SameExp f_spec_SameExp_L0 ih_spec_SameExp ih_spec_SameExp_L0 x out h
  · exact fun f_spec_l3SameDecs_L0 ih_spec_l3SameDecs_L0 x r h => K.spec_l3SameDecs_step f_spec_l3SameDecs_L0 ih_spec_l3SameDecs_L0 x r h
  · exact fun f_spec_SameExp f_spec_l3SameDecs f_spec_l3SameDecs_L0 ih_spec_SameExp ih_spec_l3SameDecs ih_spec_l3SameDecs_L0 x out h => K.spec_l3SameDecs_L0_step f_spec_SameExp f_spec_l3SameDecs f_spec_l3SameDecs_L0 ih_spec_SameExp ih_spec_l3SameDecs ih_spec_l3SameDecs_L0 x out h
theorem spec_SameExp : (∀ (x : (Exp × Exp)) (r : Bool), M.spec_SameExp x = some r → HCp P F.spec_SameExp [(Exp.enc x.1), (Exp.enc x.2)] (HV.bool r)) := K.spec_SameExp_all.1
theorem spec_SameExp_L1 : (∀ (x : (Exp × Exp × Int)) (out : (Sum Bool Unit)), M.spec_SameExp_L1 x = some out → ∀ Q : HExit → Env → St → Prop, (∀ v, out = .inr v → ∀ env st sel, Weak 0 sel [] [] env st → Q (.exit 2) env st) → (∀ r, out = .inl r → ∀ env st, RetP [(4, none)] (HV.bool r) env st → Q .ret env st) → SemL P H.spec_SameExp.ntmps 0 H.spec_SameExp_l6 [(2, (.ptr 0 1 0 0)), (3, (.ptr 1 1 0 0)), (6, (.int .i64 x.2.2))] [(.box (Exp.enc x.1)), (.box (Exp.enc x.2.1))] Q) := K.spec_SameExp_all.2.1
theorem spec_SameExp_L0 : (∀ (x : (Exp × Exp × Int)) (out : (Sum Bool Unit)), M.spec_SameExp_L0 x = some out → ∀ Q : HExit → Env → St → Prop, (∀ v, out = .inr v → ∀ env st sel, Weak 0 sel [(2, (.ptr 0 1 0 0)), (3, (.ptr 1 1 0 0))] [(.box (Exp.enc x.1)), (.box (Exp.enc x.2.1))] env st → Q (.exit 0) env st) → (∀ r, out = .inl r → ∀ env st, RetP [(4, none)] (HV.bool r) env st → Q .ret env st) → SemL P H.spec_SameExp.ntmps 0 H.spec_SameExp_l13 [(2, (.ptr 0 1 0 0)), (3, (.ptr 1 1 0 0)), (5, (.int .i64 x.2.2))] [(.box (Exp.enc x.1)), (.box (Exp.enc x.2.1))] Q) := K.spec_SameExp_all.2.2.1
theorem spec_l3SameDecs : (∀ (x : ((List Dec) × (List Dec))) (r : Bool), M.spec_l3SameDecs x = some r → HCp P F.spec_l3SameDecs [(.sl (List.map Dec.enc x.1)), (.sl (List.map Dec.enc x.2))] (HV.bool r)) := K.spec_SameExp_all.2.2.2.1
theorem spec_l3SameDecs_L0 : (∀ (x : ((List Dec) × (List Dec) × Int)) (out : (Sum Bool Unit)), M.spec_l3SameDecs_L0 x = some out → ∀ Q : HExit → Env → St → Prop, (∀ v, out = .inr v → ∀ env st sel, Weak 0 sel [] [] env st → Q (.exit 0) env st) → (∀ r, out = .inl r → ∀ env st, RetP [(4, none)] (HV.bool r) env st → Q .ret env st) → SemL P H.spec_l3SameDecs.ntmps 0 H.spec_l3SameDecs_l5 [(0, (.sl (List.map Dec.enc x.1))), (1, (.sl (List.map Dec.enc x.2.1))), (5, (.int .i64 x.2.2))] [] Q) := K.spec_SameExp_all.2.2.2.2
theorem spec_SameProg_L0 : ∀ (x : (Prog × Prog × Int)) (out : (Sum Bool Unit)), M.spec_SameProg_L0 x = some out → ∀ Q : HExit → Env → St → Prop, (∀ v, out = .inr v → ∀ env st sel, Weak 0 sel [(2, (.ptr 0 1 0 0)), (3, (.ptr 1 1 0 0))] [(.box (Prog.enc x.1)), (.box (Prog.enc x.2.1))] env st → Q (.exit 0) env st) → (∀ r, out = .inl r → ∀ env st, RetP [(4, none)] (HV.bool r) env st → Q .ret env st) → SemL P H.spec_SameProg.ntmps 0 H.spec_SameProg_l5 [(2, (.ptr 0 1 0 0)), (3, (.ptr 1 1 0 0)), (5, (.int .i64 x.2.2))] [(.box (Prog.enc x.1)), (.box (Prog.enc x.2.1))] Q := by
  refine M.spec_SameProg_L0.partial_correctness (motive := fun x out => ∀ Q : HExit → Env → St → Prop, (∀ v, out = .inr v → ∀ env st sel, Weak 0 sel [(2, (.ptr 0 1 0 0)), (3, (.ptr 1 1 0 0))] [(.box (Prog.enc x.1)), (.box (Prog.enc x.2.1))] env st → Q (.exit 0) env st) → (∀ r, out = .inl r → ∀ env st, RetP [(4, none)] (HV.bool r) env st → Q .ret env st) → SemL P H.spec_SameProg.ntmps 0 H.spec_SameProg_l5 [(2, (.ptr 0 1 0 0)), (3, (.ptr 1 1 0 0)), (5, (.int .i64 x.2.2))] [(.box (Prog.enc x.1)), (.box (Prog.enc x.2.1))] Q) ?_
  intro f_spec_SameProg_L0 ih_spec_SameProg_L0 x out h
  obtain ⟨p0, p1, t5_L0⟩ := x
  try dsimp only at h
  intro Q hx hr
  refine SemL.round ?_
  try dsimp only at hx
  refine SemF.seq rfl ?_
  refine SemF.seq rfl ?_
  refine SemF.reg true rfl ?_
  try simp only [gE, ↓gT, ↓reduceIte, reduceCtorEq, reduceAdd, reduceEqDiff, reduceLeDiff, reduceLT]; (repeat intro (_ : _ ≤ lim))
  (repeat intro (_ : _ ≤ lim))
  by_cases hc7 : t5_L0 < ((p0.Datas.length : Nat) : Int)
  · rw [if_pos hc7] at h
    refine SemF.cond rfl ?_
    simp only [gE, ↓gT, ↓reduceIte, reduceCtorEq, reduceAdd, reduceEqDiff, reduceLeDiff, reduceLT, eq_true hc7]
    refine SemF.skip rfl ?_
    simp only [gE, ↓gT, ↓reduceIte, reduceCtorEq, reduceAdd, reduceEqDiff, reduceLeDiff, reduceLT, eq_true hc7]
    refine SemF.seq rfl ?_
    refine SemF.block rfl ?_
    refine SemF.seq rfl ?_
    refine SemF.dreg true rfl ?_
    try simp only [gE, ↓gT, ↓reduceIte, reduceCtorEq, reduceAdd, reduceEqDiff, reduceLeDiff, reduceLT, eq_true hc7]; (repeat intro (_ : _ ≤ lim))
    obtain ⟨e8, h_e8, h⟩ := bs h
    have m_e8 := ixm (f := Data.enc) (ix_get h_e8)
    try simp only [gE, ↓gT, ↓reduceIte, reduceCtorEq, reduceAdd, reduceEqDiff, reduceLeDiff, reduceLT, eq_true hc7, eq_true (ix_nn h_e8), m_e8]; (repeat intro (_ : _ ≤ lim))
    obtain ⟨e9, h_e9, h⟩ := bs h
    have m_e9 := ixm (f := Data.enc) (ix_get h_e9)
    try simp only [gE, ↓gT, ↓reduceIte, reduceCtorEq, reduceAdd, reduceEqDiff, reduceLeDiff, reduceLT, eq_true hc7, eq_true (ix_nn h_e8), m_e8, eq_true (ix_nn h_e9), m_e9]; (repeat intro (_ : _ ≤ lim))
    obtain ⟨r10, h_r10, h⟩ := bs h
    refine HCp.callE (K.spec_l3SameData (e8, e9) r10 h_r10) (by simp only [gE, ↓gT, ↓reduceIte, reduceCtorEq, reduceAdd, reduceEqDiff, reduceLeDiff, reduceLT, eq_true hc7, eq_true (ix_nn h_e8), m_e8, eq_true (ix_nn h_e9), m_e9]) (by simp only [scT, esT, and_self, true_and, and_true]) (by simp only [scT, esT, and_self, true_and, and_true]) ?_
    try simp only [gE, ↓gT, ↓reduceIte, reduceCtorEq, reduceAdd, reduceEqDiff, reduceLeDiff, reduceLT, eq_true hc7, eq_true (ix_nn h_e8), m_e8, eq_true (ix_nn h_e9), m_e9]; (repeat intro (_ : _ ≤ lim))
    by_cases hc11 : r10 = true
    · rw [if_pos hc11] at h
      refine SemF.cond rfl ?_
      simp only [gE, ↓gT, ↓reduceIte, reduceCtorEq, reduceAdd, reduceEqDiff, reduceLeDiff, reduceLT, eq_true hc7, eq_true (ix_nn h_e8), m_e8, eq_true (ix_nn h_e9), m_e9, hc11]
      refine SemF.skip rfl ?_
      simp only [gE, ↓gT, ↓reduceIte, reduceCtorEq, reduceAdd, reduceEqDiff, reduceLeDiff, reduceLT, eq_true hc7, eq_true (ix_nn h_e8), m_e8, eq_true (ix_nn h_e9), m_e9, hc11]
      refine SemF.reg true rfl ?_
      try simp only [gE, ↓gT, ↓reduceIte, reduceCtorEq, reduceAdd, reduceEqDiff, reduceLeDiff, reduceLT, eq_true hc7, eq_true (ix_nn h_e8), m_e8, eq_true (ix_nn h_e9), m_e9, hc11]; (repeat intro (_ : _ ≤ lim))
      refine SemL.weak (sel := [0, 1]) ⟨by simp only [gE, ↓gT, ↓reduceIte, reduceCtorEq, reduceAdd, reduceEqDiff, reduceLeDiff, reduceLT, hwT, selS, erT, eq_true hc7, eq_true (ix_nn h_e8), m_e8, eq_true (ix_nn h_e9), m_e9, hc11], by decide, by decide, by simp only [gE, ↓gT, ↓reduceIte, reduceCtorEq, reduceAdd, reduceEqDiff, reduceLeDiff, reduceLT, hwT, selS, erT, subR, eq_true hc7, eq_true (ix_nn h_e8), m_e8, eq_true (ix_nn h_e9), m_e9, hc11], by simp only [gE, ↓gT, ↓reduceIte, reduceCtorEq, reduceAdd, reduceEqDiff, reduceLeDiff, reduceLT, hwT, selS, erT, scT, esT, eq_true hc7, eq_true (ix_nn h_e8), m_e8, eq_true (ix_nn h_e9), m_e9, hc11], by simp only [gE, ↓gT, ↓reduceIte, reduceCtorEq, reduceAdd, reduceEqDiff, reduceLeDiff, reduceLT, hwT, selS, erT, scT, esT, eq_true hc7, eq_true (ix_nn h_e8), m_e8, eq_true (ix_nn h_e9), m_e9, hc11]⟩ (ih_spec_SameProg_L0 (p0, p1, (IntKind.i64.wrap (t5_L0 + 1))) out h Q hx hr)
    · rw [if_neg hc11] at h
      replace hc11 := eq_false_of_ne_true hc11
      refine SemF.cond rfl ?_
      simp only [gE, ↓gT, ↓reduceIte, reduceCtorEq, reduceAdd, reduceEqDiff, reduceLeDiff, reduceLT, eq_true hc7, eq_true (ix_nn h_e8), m_e8, eq_true (ix_nn h_e9), m_e9, hc11]
      refine SemF.seq rfl ?_
      refine SemF.reg true rfl ?_
      try simp only [gE, ↓gT, ↓reduceIte, reduceCtorEq, reduceAdd, reduceEqDiff, reduceLeDiff, reduceLT, eq_true hc7, eq_true (ix_nn h_e8), m_e8, eq_true (ix_nn h_e9), m_e9, hc11]; (repeat intro (_ : _ ≤ lim))
      refine SemF.ret rfl ?_
      try simp only [gE, ↓gT, ↓reduceIte, reduceCtorEq, reduceAdd, reduceEqDiff, reduceLeDiff, reduceLT, eq_true hc7, eq_true (ix_nn h_e8), m_e8, eq_true (ix_nn h_e9), m_e9, hc11]; (repeat intro (_ : _ ≤ lim))
      obtain rfl := Option.some.inj h
      refine hr _ rfl _ _ ?_
      simp only [gE, ↓gT, ↓reduceIte, reduceCtorEq, reduceAdd, reduceEqDiff, reduceLeDiff, reduceLT, RetP_def, eq_true hc7, eq_true (ix_nn h_e8), m_e8, eq_true (ix_nn h_e9), m_e9, hc11]
  · rw [if_neg hc7] at h
    refine SemF.cond rfl ?_
    simp only [gE, ↓gT, ↓reduceIte, reduceCtorEq, reduceAdd, reduceEqDiff, reduceLeDiff, reduceLT, eq_false hc7]
    refine SemF.exit rfl ?_
    simp only [gE, ↓gT, ↓reduceIte, reduceCtorEq, reduceAdd, reduceEqDiff, reduceLeDiff, reduceLT, eq_false hc7]
    obtain rfl := Option.some.inj h
    refine hx _ rfl _ _ [0, 1] ⟨by simp only [gE, ↓gT, ↓reduceIte, reduceCtorEq, reduceAdd, reduceEqDiff, reduceLeDiff, reduceLT, hwT, selS, erT, eq_false hc7], by decide, by decide, by simp only [gE, ↓gT, ↓reduceIte, reduceCtorEq, reduceAdd, reduceEqDiff, reduceLeDiff, reduceLT, hwT, selS, erT, subR, eq_false hc7], by simp only [gE, ↓gT, ↓reduceIte, reduceCtorEq, reduceAdd, reduceEqDiff, reduceLeDiff, reduceLT, hwT, selS, erT, scT, esT, eq_false hc7], by simp only [gE, ↓gT, ↓reduceIte, reduceCtorEq, reduceAdd, reduceEqDiff, reduceLeDiff, reduceLT, hwT, selS, erT, scT, esT, eq_false hc7]⟩
theorem spec_SameProg : ∀ (x : (Prog × Prog)) (r : Bool), M.spec_SameProg x = some r → HCp P F.spec_SameProg [(Prog.enc x.1), (Prog.enc x.2)] (HV.bool r) := by
  intro x r h
  obtain ⟨p0, p1⟩ := x
  unfold M.spec_SameProg at h
  try dsimp only at h
  refine HCp.mkF S.spec_SameProg (by simp [H.spec_SameProg]) (by simp only [scT, esT, and_self, true_and, and_true]) ?_
  simp only [gE, ↓gT, ↓reduceIte, reduceCtorEq, reduceAdd, reduceEqDiff, reduceLeDiff, reduceLT, H.spec_SameProg]
  refine SemF.seq rfl ?_
  refine SemF.reg true rfl ?_
  try simp only [gE, ↓gT, ↓reduceIte, reduceCtorEq, reduceAdd, reduceEqDiff, reduceLeDiff, reduceLT]; (repeat intro (_ : _ ≤ lim))
  refine SemF.seq rfl ?_
  refine SemF.seq rfl ?_
  refine SemF.reg true rfl ?_
  try simp only [gE, ↓gT, ↓reduceIte, reduceCtorEq, reduceAdd, reduceEqDiff, reduceLeDiff, reduceLT]; (repeat intro (_ : _ ≤ lim))
  (repeat intro (_ : _ ≤ lim))
  (repeat intro (_ : _ ≤ lim))
  by_cases hc1 : ((p0.Datas.length : Nat) : Int) = ((p1.Datas.length : Nat) : Int)
  · rw [if_pos hc1] at h
    refine SemF.cond rfl ?_
    simp only [gE, ↓gT, ↓reduceIte, reduceCtorEq, reduceAdd, reduceEqDiff, reduceLeDiff, reduceLT, eq_true hc1]
    refine SemF.skip rfl ?_
    simp only [gE, ↓gT, ↓reduceIte, reduceCtorEq, reduceAdd, reduceEqDiff, reduceLeDiff, reduceLT, eq_true hc1]
    refine SemF.seq rfl ?_
    refine SemF.seq rfl ?_
    refine SemF.reg true rfl ?_
    try simp only [gE, ↓gT, ↓reduceIte, reduceCtorEq, reduceAdd, reduceEqDiff, reduceLeDiff, reduceLT, eq_true hc1]; (repeat intro (_ : _ ≤ lim))
    refine SemF.block rfl ?_
    obtain ⟨s12, h_s12, h⟩ := bs h
    rcases s12 with r13 | v14
    · dsimp only at h
      refine SemF.loop rfl ?_
      refine SemL.weak (sel := [0, 1]) ⟨by simp only [gE, ↓gT, ↓reduceIte, reduceCtorEq, reduceAdd, reduceEqDiff, reduceLeDiff, reduceLT, hwT, selS, erT, eq_true hc1], by decide, by decide, by simp only [gE, ↓gT, ↓reduceIte, reduceCtorEq, reduceAdd, reduceEqDiff, reduceLeDiff, reduceLT, hwT, selS, erT, subR, eq_true hc1], by simp only [gE, ↓gT, ↓reduceIte, reduceCtorEq, reduceAdd, reduceEqDiff, reduceLeDiff, reduceLT, hwT, selS, erT, scT, esT, eq_true hc1], by simp only [gE, ↓gT, ↓reduceIte, reduceCtorEq, reduceAdd, reduceEqDiff, reduceLeDiff, reduceLT, hwT, selS, erT, scT, esT, eq_true hc1]⟩ (K.spec_SameProg_L0 (p0, p1, 0) (.inl r13) h_s12 _ ?_ ?_)
      · intro v hv; cases hv
      · intro r' hr' env st hy
        cases hr'
        simp only [gE, ↓gT, ↓reduceIte, reduceCtorEq, reduceAdd, reduceEqDiff, reduceLeDiff, reduceLT]
        obtain rfl := Option.some.inj h
        exact hy
    · dsimp only at h
      refine SemF.loop rfl ?_
      refine SemL.weak (sel := [0, 1]) ⟨by simp only [gE, ↓gT, ↓reduceIte, reduceCtorEq, reduceAdd, reduceEqDiff, reduceLeDiff, reduceLT, hwT, selS, erT, eq_true hc1], by decide, by decide, by simp only [gE, ↓gT, ↓reduceIte, reduceCtorEq, reduceAdd, reduceEqDiff, reduceLeDiff, reduceLT, hwT, selS, erT, subR, eq_true hc1], by simp only [gE, ↓gT, ↓reduceIte, reduceCtorEq, reduceAdd, reduceEqDiff, reduceLeDiff, reduceLT, hwT, selS, erT, scT, esT, eq_true hc1], by simp only [gE, ↓gT, ↓reduceIte, reduceCtorEq, reduceAdd, reduceEqDiff, reduceLeDiff, reduceLT, hwT, selS, erT, scT, esT, eq_true hc1]⟩ (K.spec_SameProg_L0 (p0, p1, 0) (.inr v14) h_s12 _ ?_ ?_)
      rotate_left
      · intro r' hr'; cases hr'
      intro v hv env st sel hw
      cases hv
      simp only [gE, ↓gT, ↓reduceIte, reduceCtorEq, reduceAdd, reduceEqDiff, reduceLeDiff, reduceLT]
      first | refine SemF.weak hw ?_ | refine SemL.weak hw ?_
      refine SemF.seq rfl ?_
      refine SemF.reg true rfl ?_
      try simp only [gE, ↓gT, ↓reduceIte, reduceCtorEq, reduceAdd, reduceEqDiff, reduceLeDiff, reduceLT, eq_true hc1]; (repeat intro (_ : _ ≤ lim))
      obtain ⟨r15, h_r15, h⟩ := bs h
      refine HCp.callE (K.spec_l3SameDecs (p0.Decs, p1.Decs) r15 h_r15) (by simp only [gE, ↓gT, ↓reduceIte, reduceCtorEq, reduceAdd, reduceEqDiff, reduceLeDiff, reduceLT, eq_true hc1]) (by simp only [scT, esT, and_self, true_and, and_true]) (by simp only [scT, esT, and_self, true_and, and_true]) ?_
      try simp only [gE, ↓gT, ↓reduceIte, reduceCtorEq, reduceAdd, reduceEqDiff, reduceLeDiff, reduceLT, eq_true hc1]; (repeat intro (_ : _ ≤ lim))
      refine SemF.ret rfl ?_
      try simp only [gE, ↓gT, ↓reduceIte, reduceCtorEq, reduceAdd, reduceEqDiff, reduceLeDiff, reduceLT, eq_true hc1]; (repeat intro (_ : _ ≤ lim))
      obtain rfl := Option.some.inj h
      simp only [gE, ↓gT, ↓reduceIte, reduceCtorEq, reduceAdd, reduceEqDiff, reduceLeDiff, reduceLT, RetP_def, eq_true hc1]
  · rw [if_neg hc1] at h
    refine SemF.cond rfl ?_
    simp only [gE, ↓gT, ↓reduceIte, reduceCtorEq, reduceAdd, reduceEqDiff, reduceLeDiff, reduceLT, eq_false hc1]
    refine SemF.seq rfl ?_
    refine SemF.reg true rfl ?_
    try simp only [gE, ↓gT, ↓reduceIte, reduceCtorEq, reduceAdd, reduceEqDiff, reduceLeDiff, reduceLT, eq_false hc1]; (repeat intro (_ : _ ≤ lim))
    refine SemF.ret rfl ?_
    try simp only [gE, ↓gT, ↓reduceIte, reduceCtorEq, reduceAdd, reduceEqDiff, reduceLeDiff, reduceLT, eq_false hc1]; (repeat intro (_ : _ ≤ lim))
    obtain rfl := Option.some.inj h
    simp only [gE, ↓gT, ↓reduceIte, reduceCtorEq, reduceAdd, reduceEqDiff, reduceLeDiff, reduceLT, RetP_def, eq_false hc1]
theorem laws_toTy_step (f_laws_toTyS : (List Ty) → Option (List Ty)) (ih_laws_toTyS : ∀ (x : (List Ty)) (r : (List Ty)), f_laws_toTyS x = some r → HCp P F.laws_toTyS [(.sl (List.map Ty.enc x))] (HV.sl (List.map Ty.enc r))) (x : Ty) (r : Ty) (h : (f_laws_toTyS x.L >>= fun r1 =>
    some (Ty.mk x.K x.S x.N r1)) = some r) : HCp P F.laws_toTy [(Ty.enc x)] (Ty.enc r) := by
  revert h; revert x; intro p0 h
  try dsimp only at h
  refine HCp.mkF S.laws_toTy (by simp [H.laws_toTy]) (by simp only [scT, esT, and_self, true_and, and_true]) ?_
  simp only [gE, ↓gT, ↓reduceIte, reduceCtorEq, reduceAdd, reduceEqDiff, reduceLeDiff, reduceLT, H.laws_toTy]
  refine SemF.seq rfl ?_
  refine SemF.reg true rfl ?_
  try simp only [gE, ↓gT, ↓reduceIte, reduceCtorEq, reduceAdd, reduceEqDiff, reduceLeDiff, reduceLT]; (repeat intro (_ : _ ≤ lim))
  refine SemF.seq rfl ?_
  refine SemF.reg true rfl ?_
  try simp only [gE, ↓gT, ↓reduceIte, reduceCtorEq, reduceAdd, reduceEqDiff, reduceLeDiff, reduceLT]; (repeat intro (_ : _ ≤ lim))
  refine SemF.seq rfl ?_
  refine SemF.reg true rfl ?_
  try simp only [gE, ↓gT, ↓reduceIte, reduceCtorEq, reduceAdd, reduceEqDiff, reduceLeDiff, reduceLT]; (repeat intro (_ : _ ≤ lim))
  refine SemF.seq rfl ?_
  refine SemF.reg true rfl ?_
  try simp only [gE, ↓gT, ↓reduceIte, reduceCtorEq, reduceAdd, reduceEqDiff, reduceLeDiff, reduceLT]; (repeat intro (_ : _ ≤ lim))
  refine SemF.seq rfl ?_
  refine SemF.reg true rfl ?_
  try simp only [gE, ↓gT, ↓reduceIte, reduceCtorEq, reduceAdd, reduceEqDiff, reduceLeDiff, reduceLT]; (repeat intro (_ : _ ≤ lim))
  refine SemF.seq rfl ?_
  refine SemF.reg true rfl ?_
  try simp only [gE, ↓gT, ↓reduceIte, reduceCtorEq, reduceAdd, reduceEqDiff, reduceLeDiff, reduceLT]; (repeat intro (_ : _ ≤ lim))
  obtain ⟨r1, h_r1, h⟩ := bs h
  refine HCp.callE (ih_laws_toTyS p0.L r1 h_r1) (by simp only [gE, ↓gT, ↓reduceIte, reduceCtorEq, reduceAdd, reduceEqDiff, reduceLeDiff, reduceLT]) (by simp only [scT, esT, and_self, true_and, and_true]) (by simp only [scT, esT, and_self, true_and, and_true]) ?_
  try simp only [gE, ↓gT, ↓reduceIte, reduceCtorEq, reduceAdd, reduceEqDiff, reduceLeDiff, reduceLT]; (repeat intro (_ : _ ≤ lim))
  refine SemF.seq rfl ?_
  refine SemF.reg true rfl ?_
  try simp only [gE, ↓gT, ↓reduceIte, reduceCtorEq, reduceAdd, reduceEqDiff, reduceLeDiff, reduceLT]; (repeat intro (_ : _ ≤ lim))
  refine SemF.ret rfl ?_
  try simp only [gE, ↓gT, ↓reduceIte, reduceCtorEq, reduceAdd, reduceEqDiff, reduceLeDiff, reduceLT]; (repeat intro (_ : _ ≤ lim))
  obtain rfl := Option.some.inj h
  simp only [gE, ↓gT, ↓reduceIte, reduceCtorEq, reduceAdd, reduceEqDiff, reduceLeDiff, reduceLT, RetP_def]
end K
end W
