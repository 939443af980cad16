import Derived.Test.YtnhdobhfebiggaaXPrf8
namespace W
set_option linter.unusedSimpArgs false
set_option linter.unusedVariables false
open Go HL S
open Nat (reduceAdd reduceEqDiff reduceLeDiff reduceSub reduceMul reduceLT)
set_option linter.unusedVariables false
set_option maxRecDepth 100000
set_option maxHeartbeats 4000000
namespace K
theorem laws_markTokS_p_L0 : ∀ (x : (Int × Int × (List Tok))) (out : (Int × (List Tok))), M.laws_markTokS_p_L0 x = some out → ∀ Q : HExit → Env → St → Prop, (∀ env st sel, Weak 1 sel [(1, (.int .i64 out.1))] [(.arr 4 (List.map Tok.enc out.2) true)] env st → Q (.exit 0) env st) → SemL P H.laws_markTokS.ntmps 1 H.laws_markTokS_l4 [(0, (.own 0 x.2.2.length)), (1, (.int .i64 x.1)), (5, (.int .i64 x.2.1))] [(.arr 4 (List.map Tok.enc x.2.2) true)] Q := by
  refine M.laws_markTokS_p_L0.partial_correctness (motive := fun x out => ∀ Q : HExit → Env → St → Prop, (∀ env st sel, Weak 1 sel [(1, (.int .i64 out.1))] [(.arr 4 (List.map Tok.enc out.2) true)] env st → Q (.exit 0) env st) → SemL P H.laws_markTokS.ntmps 1 H.laws_markTokS_l4 [(0, (.own 0 x.2.2.length)), (1, (.int .i64 x.1)), (5, (.int .i64 x.2.1))] [(.arr 4 (List.map Tok.enc x.2.2) true)] Q) ?_
  intro f_laws_markTokS_p_L0 ih_laws_markTokS_p_L0 x out h
  obtain ⟨t1_L0, t5_L0, a0_L0⟩ := x
  try dsimp only at h
  intro Q hx
  refine SemL.round ?_
  try dsimp only at hx
  refine SemF.seq rfl ?_
  refine SemF.seq rfl ?_
  refine SemF.reg true rfl ?_
  try simp only [gE, ↓gT, ↓reduceIte, reduceCtorEq, reduceAdd, reduceEqDiff, reduceLeDiff, reduceLT]; (repeat intro (_ : _ ≤ lim))
  (repeat intro (_ : _ ≤ lim))
  by_cases hc13 : t5_L0 < ((a0_L0.length : Nat) : Int)
  · rw [if_pos hc13] at h
    refine SemF.cond rfl ?_
    simp only [gE, ↓gT, ↓reduceIte, reduceCtorEq, reduceAdd, reduceEqDiff, reduceLeDiff, reduceLT, eq_true hc13]
    refine SemF.skip rfl ?_
    simp only [gE, ↓gT, ↓reduceIte, reduceCtorEq, reduceAdd, reduceEqDiff, reduceLeDiff, reduceLT, eq_true hc13]
    refine SemF.seq rfl ?_
    refine SemF.block rfl ?_
    refine SemF.seq rfl ?_
    refine SemF.reg true rfl ?_
    try simp only [gE, ↓gT, ↓reduceIte, reduceCtorEq, reduceAdd, reduceEqDiff, reduceLeDiff, reduceLT, eq_true hc13]; (repeat intro (_ : _ ≤ lim))
    obtain ⟨e14, h_e14, h⟩ := bs h
    have m_e14 := ixm (f := Tok.enc) (ix_get h_e14)
    try simp only [gE, ↓gT, ↓reduceIte, reduceCtorEq, reduceAdd, reduceEqDiff, reduceLeDiff, reduceLT, eq_true hc13, eq_true (ix_nn h_e14), m_e14]; (repeat intro (_ : _ ≤ lim))
    refine SemF.seq rfl ?_
    refine SemF.reg true rfl ?_
    try simp only [gE, ↓gT, ↓reduceIte, reduceCtorEq, reduceAdd, reduceEqDiff, reduceLeDiff, reduceLT, eq_true hc13, eq_true (ix_nn h_e14), m_e14]; (repeat intro (_ : _ ≤ lim))
    refine SemF.seq rfl ?_
    refine SemF.reg true rfl ?_
    try simp only [gE, ↓gT, ↓reduceIte, reduceCtorEq, reduceAdd, reduceEqDiff, reduceLeDiff, reduceLT, eq_true hc13, eq_true (ix_nn h_e14), m_e14]; (repeat intro (_ : _ ≤ lim))
    obtain ⟨r15, h_r15, h⟩ := bs h
    refine HCp.callE (K.laws_markText (IntKind.i64.wrap (t1_L0 + 1)) r15 h_r15) (by simp only [gE, ↓gT, ↓reduceIte, reduceCtorEq, reduceAdd, reduceEqDiff, reduceLeDiff, reduceLT, eq_true hc13, eq_true (ix_nn h_e14), m_e14]) (by simp only [scT, esT, and_self, true_and, and_true]) (by simp only [scT, esT, and_self, true_and, and_true]) ?_
    try simp only [gE, ↓gT, ↓reduceIte, reduceCtorEq, reduceAdd, reduceEqDiff, reduceLeDiff, reduceLT, eq_true hc13, eq_true (ix_nn h_e14), m_e14]; (repeat intro (_ : _ ≤ lim))
    obtain ⟨e16, h_e16, h⟩ := bs h
    have m_e16 := ixm (f := Tok.enc) (ix_get h_e16)
    try simp only [gE, ↓gT, ↓reduceIte, reduceCtorEq, reduceAdd, reduceEqDiff, reduceLeDiff, reduceLT] at m_e16
    try simp only [gE, ↓gT, ↓reduceIte, reduceCtorEq, reduceAdd, reduceEqDiff, reduceLeDiff, reduceLT, eq_true hc13, eq_true (ix_nn h_e14), m_e14, eq_true (ix_nn h_e16), m_e16]; (repeat intro (_ : _ ≤ lim))
    refine SemF.seq rfl ?_
    refine SemF.reg true rfl ?_
    try simp only [gE, ↓gT, ↓reduceIte, reduceCtorEq, reduceAdd, reduceEqDiff, reduceLeDiff, reduceLT, eq_true hc13, eq_true (ix_nn h_e14), m_e14, eq_true (ix_nn h_e16), m_e16]; (repeat intro (_ : _ ≤ lim))
    refine SemF.seq rfl ?_
    refine SemF.reg true rfl ?_
    try simp only [gE, ↓gT, ↓reduceIte, reduceCtorEq, reduceAdd, reduceEqDiff, reduceLeDiff, reduceLT, eq_true hc13, eq_true (ix_nn h_e14), m_e14, eq_true (ix_nn h_e16), m_e16]; (repeat intro (_ : _ ≤ lim))
    obtain ⟨e17, h_e17, h⟩ := bs h
    have m_e17 := ixm (f := Tok.enc) (ix_get h_e17)
    try simp only [gE, ↓gT, ↓reduceIte, reduceCtorEq, reduceAdd, reduceEqDiff, reduceLeDiff, reduceLT] at m_e17
    try simp only [gE, ↓gT, ↓reduceIte, reduceCtorEq, reduceAdd, reduceEqDiff, reduceLeDiff, reduceLT, eq_true hc13, eq_true (ix_nn h_e14), m_e14, eq_true (ix_nn h_e16), m_e16, eq_true (ix_nn h_e17), m_e17]; (repeat intro (_ : _ ≤ lim))
    refine SemF.seq rfl ?_
    refine SemF.reg true rfl ?_
    try simp only [gE, ↓gT, ↓reduceIte, reduceCtorEq, reduceAdd, reduceEqDiff, reduceLeDiff, reduceLT, eq_true hc13, eq_true (ix_nn h_e14), m_e14, eq_true (ix_nn h_e16), m_e16, eq_true (ix_nn h_e17), m_e17]; (repeat intro (_ : _ ≤ lim))
    refine SemF.seq rfl ?_
    refine SemF.reg true rfl ?_
    try simp only [gE, ↓gT, ↓reduceIte, reduceCtorEq, reduceAdd, reduceEqDiff, reduceLeDiff, reduceLT, eq_true hc13, eq_true (ix_nn h_e14), m_e14, eq_true (ix_nn h_e16), m_e16, eq_true (ix_nn h_e17), m_e17]; (repeat intro (_ : _ ≤ lim))
    obtain ⟨e18, h_e18, h⟩ := bs h
    have m_e18 := ixm (f := Tok.enc) (ix_get h_e18)
    try simp only [gE, ↓gT, ↓reduceIte, reduceCtorEq, reduceAdd, reduceEqDiff, reduceLeDiff, reduceLT] at m_e18
    try simp only [gE, ↓gT, ↓reduceIte, reduceCtorEq, reduceAdd, reduceEqDiff, reduceLeDiff, reduceLT, eq_true hc13, eq_true (ix_nn h_e14), m_e14, eq_true (ix_nn h_e16), m_e16, eq_true (ix_nn h_e17), m_e17, eq_true (ix_nn h_e18), m_e18]; (repeat intro (_ : _ ≤ lim))
    refine SemF.reg true rfl ?_
    try simp only [gE, ↓gT, ↓reduceIte, reduceCtorEq, reduceAdd, reduceEqDiff, reduceLeDiff, reduceLT, eq_true hc13, eq_true (ix_nn h_e14), m_e14, eq_true (ix_nn h_e16), m_e16, eq_true (ix_nn h_e17), m_e17, eq_true (ix_nn h_e18), m_e18]; (repeat intro (_ : _ ≤ lim))
    refine SemF.reg true rfl ?_
    try simp only [gE, ↓gT, ↓reduceIte, reduceCtorEq, reduceAdd, reduceEqDiff, reduceLeDiff, reduceLT, eq_true hc13, eq_true (ix_nn h_e14), m_e14, eq_true (ix_nn h_e16), m_e16, eq_true (ix_nn h_e17), m_e17, eq_true (ix_nn h_e18), m_e18]; (repeat intro (_ : _ ≤ lim))
    refine SemL.weak (sel := [0]) ⟨by simp only [gE, ↓gT, ↓reduceIte, reduceCtorEq, reduceAdd, reduceEqDiff, reduceLeDiff, reduceLT, hwT, selS, erT, eq_true hc13, eq_true (ix_nn h_e14), m_e14, eq_true (ix_nn h_e16), m_e16, eq_true (ix_nn h_e17), m_e17, eq_true (ix_nn h_e18), m_e18], by decide, by decide, by simp only [gE, ↓gT, ↓reduceIte, reduceCtorEq, reduceAdd, reduceEqDiff, reduceLeDiff, reduceLT, hwT, selS, erT, subR, eq_true hc13, eq_true (ix_nn h_e14), m_e14, eq_true (ix_nn h_e16), m_e16, eq_true (ix_nn h_e17), m_e17, eq_true (ix_nn h_e18), m_e18], by simp only [gE, ↓gT, ↓reduceIte, reduceCtorEq, reduceAdd, reduceEqDiff, reduceLeDiff, reduceLT, hwT, selS, erT, scT, esT, eq_true hc13, eq_true (ix_nn h_e14), m_e14, eq_true (ix_nn h_e16), m_e16, eq_true (ix_nn h_e17), m_e17, eq_true (ix_nn h_e18), m_e18], by simp only [gE, ↓gT, ↓reduceIte, reduceCtorEq, reduceAdd, reduceEqDiff, reduceLeDiff, reduceLT, hwT, selS, erT, scT, esT, eq_true hc13, eq_true (ix_nn h_e14), m_e14, eq_true (ix_nn h_e16), m_e16, eq_true (ix_nn h_e17), m_e17, eq_true (ix_nn h_e18), m_e18]⟩ (ih_laws_markTokS_p_L0 ((IntKind.i64.wrap ((IntKind.i64.wrap ((IntKind.i64.wrap ((IntKind.i64.wrap (t1_L0 + 1)) + 1)) + 1)) + 1)), (IntKind.i64.wrap (t5_L0 + 1)), ((((a0_L0.set t5_L0.toNat (Tok.mk t1_L0 e14.S e14.Line e14.Col)).set t5_L0.toNat (Tok.mk e16.K r15 e16.Line e16.Col)).set t5_L0.toNat (Tok.mk e17.K e17.S (IntKind.i64.wrap ((IntKind.i64.wrap (t1_L0 + 1)) + 1)) e17.Col)).set t5_L0.toNat (Tok.mk e18.K e18.S e18.Line (IntKind.i64.wrap ((IntKind.i64.wrap ((IntKind.i64.wrap (t1_L0 + 1)) + 1)) + 1))))) out h Q hx)
  · rw [if_neg hc13] at h
    refine SemF.cond rfl ?_
    simp only [gE, ↓gT, ↓reduceIte, reduceCtorEq, reduceAdd, reduceEqDiff, reduceLeDiff, reduceLT, eq_false hc13]
    refine SemF.exit rfl ?_
    simp only [gE, ↓gT, ↓reduceIte, reduceCtorEq, reduceAdd, reduceEqDiff, reduceLeDiff, reduceLT, eq_false hc13]
    obtain rfl := Option.some.inj h
    refine hx _ _ [0] ⟨by simp only [gE, ↓gT, ↓reduceIte, reduceCtorEq, reduceAdd, reduceEqDiff, reduceLeDiff, reduceLT, hwT, selS, erT, eq_false hc13], by decide, by decide, by simp only [gE, ↓gT, ↓reduceIte, reduceCtorEq, reduceAdd, reduceEqDiff, reduceLeDiff, reduceLT, hwT, selS, erT, subR, eq_false hc13], by simp only [gE, ↓gT, ↓reduceIte, reduceCtorEq, reduceAdd, reduceEqDiff, reduceLeDiff, reduceLT, hwT, selS, erT, scT, esT, eq_false hc13], by simp only [gE, ↓gT, ↓reduceIte, reduceCtorEq, reduceAdd, reduceEqDiff, reduceLeDiff, reduceLT, hwT, selS, erT, scT, esT, eq_false hc13]⟩
theorem laws_markTokS_p : ∀ (x : ((List Tok) × Int)) (r : (Int × (List Tok))), M.laws_markTokS_p x = some r → HC P F.laws_markTokS [(.own 0 x.1.length), (.int .i64 x.2)] [(.arr 4 (List.map Tok.enc x.1) true)] (fun r_ s_ => r_ = (HV.int .i64 r.1) ∧ s_ = [(.arr 4 (List.map Tok.enc r.2) true)]) := by
  intro x r h
  obtain ⟨p0, p1⟩ := x
  unfold M.laws_markTokS_p at h
  try dsimp only at h
  refine HC.mkB S.laws_markTokS (by simp [H.laws_markTokS]) ?_
  simp only [gE, ↓gT, ↓reduceIte, reduceCtorEq, reduceAdd, reduceEqDiff, reduceLeDiff, reduceLT, H.laws_markTokS]
  refine SemF.seq rfl ?_
  refine SemF.reg true rfl ?_
  try simp only [gE, ↓gT, ↓reduceIte, reduceCtorEq, reduceAdd, reduceEqDiff, reduceLeDiff, reduceLT]; (repeat intro (_ : _ ≤ lim))
  refine SemF.seq rfl ?_
  refine SemF.seq rfl ?_
  refine SemF.reg true rfl ?_
  try simp only [gE, ↓gT, ↓reduceIte, reduceCtorEq, reduceAdd, reduceEqDiff, reduceLeDiff, reduceLT]; (repeat intro (_ : _ ≤ lim))
  refine SemF.block rfl ?_
  obtain ⟨s19, h_s19, h⟩ := bs h
  refine SemF.loop rfl ?_
  refine SemL.weak (sel := [0]) ⟨by simp only [gE, ↓gT, ↓reduceIte, reduceCtorEq, reduceAdd, reduceEqDiff, reduceLeDiff, reduceLT, hwT, selS, erT], by decide, by decide, by simp only [gE, ↓gT, ↓reduceIte, reduceCtorEq, reduceAdd, reduceEqDiff, reduceLeDiff, reduceLT, hwT, selS, erT, subR], by simp only [gE, ↓gT, ↓reduceIte, reduceCtorEq, reduceAdd, reduceEqDiff, reduceLeDiff, reduceLT, hwT, selS, erT, scT, esT], by simp only [gE, ↓gT, ↓reduceIte, reduceCtorEq, reduceAdd, reduceEqDiff, reduceLeDiff, reduceLT, hwT, selS, erT, scT, esT]⟩ (K.laws_markTokS_p_L0 (p1, 0, p0) s19 h_s19 _ ?_)
  intro env st sel hw
  simp only [gE, ↓gT, ↓reduceIte, reduceCtorEq, reduceAdd, reduceEqDiff, reduceLeDiff, reduceLT]
  first | refine SemF.weak hw ?_ | refine SemL.weak hw ?_
  refine SemF.seq rfl ?_
  refine SemF.reg true rfl ?_
  try simp only [gE, ↓gT, ↓reduceIte, reduceCtorEq, reduceAdd, reduceEqDiff, reduceLeDiff, reduceLT]; (repeat intro (_ : _ ≤ lim))
  refine SemF.ret rfl ?_
  try simp only [gE, ↓gT, ↓reduceIte, reduceCtorEq, reduceAdd, reduceEqDiff, reduceLeDiff, reduceLT]; (repeat intro (_ : _ ≤ lim))
  obtain rfl := Option.some.inj h
  simp only [gE, ↓gT, ↓reduceIte, reduceCtorEq, reduceAdd, reduceEqDiff, reduceLeDiff, reduceLT, RetB_def]
  exact ⟨[0], by simp only [gE, ↓gT, ↓reduceIte, reduceCtorEq, reduceAdd, reduceEqDiff, reduceLeDiff, reduceLT, hwT, selS, erT], by simp only [gE, ↓gT, ↓reduceIte, reduceCtorEq, reduceAdd, reduceEqDiff, reduceLeDiff, reduceLT, hwT, selS, erT], by decide, by decide, by simp only [gE, ↓gT, ↓reduceIte, reduceCtorEq, reduceAdd, reduceEqDiff, reduceLeDiff, reduceLT, hwT, selS, erT, scT, esT], by simp only [gE, ↓gT, ↓reduceIte, reduceCtorEq, reduceAdd, reduceEqDiff, reduceLeDiff, reduceLT, hwT, selS, erT, scT, esT]⟩
theorem laws_heldTokS_p_L0 : ∀ (x : ((List Tok) × Int × Int)) (out : (Sum (Int × (List Tok)) Int)), M.laws_heldTokS_p_L0 x = some out → ∀ Q : HExit → Env → St → Prop, (∀ v, out = .inr v → ∀ env st sel, Weak 1 sel [(1, (.int .i64 v))] [(.arr 4 (List.map Tok.enc x.1) true)] env st → Q (.exit 0) env st) → (∀ r, out = .inl r → ∀ env st, RetB 1 [(4, none)] (HV.int .i64 r.1) [(.arr 4 (List.map Tok.enc r.2) true)] env st → Q .ret env st) → SemL P H.laws_heldTokS.ntmps 1 H.laws_heldTokS_l4 [(0, (.own 0 x.1.length)), (1, (.int .i64 x.2.1)), (5, (.int .i64 x.2.2))] [(.arr 4 (List.map Tok.enc x.1) true)] Q := by
  refine M.laws_heldTokS_p_L0.partial_correctness (motive := fun x out => ∀ Q : HExit → Env → St → Prop, (∀ v, out = .inr v → ∀ env st sel, Weak 1 sel [(1, (.int .i64 v))] [(.arr 4 (List.map Tok.enc x.1) true)] env st → Q (.exit 0) env st) → (∀ r, out = .inl r → ∀ env st, RetB 1 [(4, none)] (HV.int .i64 r.1) [(.arr 4 (List.map Tok.enc r.2) true)] env st → Q .ret env st) → SemL P H.laws_heldTokS.ntmps 1 H.laws_heldTokS_l4 [(0, (.own 0 x.1.length)), (1, (.int .i64 x.2.1)), (5, (.int .i64 x.2.2))] [(.arr 4 (List.map Tok.enc x.1) true)] Q) ?_
  intro f_laws_heldTokS_p_L0 ih_laws_heldTokS_p_L0 x out h
  obtain ⟨p0, t1_L0, t5_L0⟩ := x
  try dsimp only at h
  intro Q hx hr
  refine SemL.round ?_
  try dsimp only at hx
  refine SemF.seq rfl ?_
  refine SemF.seq rfl ?_
  refine SemF.reg true rfl ?_
  try simp only [gE, ↓gT, ↓reduceIte, reduceCtorEq, reduceAdd, reduceEqDiff, reduceLeDiff, reduceLT]; (repeat intro (_ : _ ≤ lim))
  (repeat intro (_ : _ ≤ lim))
  by_cases hc8 : t5_L0 < ((p0.length : Nat) : Int)
  · rw [if_pos hc8] at h
    refine SemF.cond rfl ?_
    simp only [gE, ↓gT, ↓reduceIte, reduceCtorEq, reduceAdd, reduceEqDiff, reduceLeDiff, reduceLT, eq_true hc8]
    refine SemF.skip rfl ?_
    simp only [gE, ↓gT, ↓reduceIte, reduceCtorEq, reduceAdd, reduceEqDiff, reduceLeDiff, reduceLT, eq_true hc8]
    refine SemF.seq rfl ?_
    refine SemF.block rfl ?_
    refine SemF.seq rfl ?_
    refine SemF.seq rfl ?_
    refine SemF.reg true rfl ?_
    try simp only [gE, ↓gT, ↓reduceIte, reduceCtorEq, reduceAdd, reduceEqDiff, reduceLeDiff, reduceLT, eq_true hc8]; (repeat intro (_ : _ ≤ lim))
    obtain ⟨e9, h_e9, h⟩ := bs h
    have m_e9 := ixm (f := Tok.enc) (ix_get h_e9)
    try simp only [gE, ↓gT, ↓reduceIte, reduceCtorEq, reduceAdd, reduceEqDiff, reduceLeDiff, reduceLT, eq_true hc8, eq_true (ix_nn h_e9), m_e9]; (repeat intro (_ : _ ≤ lim))
    by_cases hc10 : e9.K = t1_L0
    · rw [if_pos hc10] at h
      refine SemF.cond rfl ?_
      simp only [gE, ↓gT, ↓reduceIte, reduceCtorEq, reduceAdd, reduceEqDiff, reduceLeDiff, reduceLT, eq_true hc8, eq_true (ix_nn h_e9), m_e9, eq_true hc10]
      refine SemF.skip rfl ?_
      simp only [gE, ↓gT, ↓reduceIte, reduceCtorEq, reduceAdd, reduceEqDiff, reduceLeDiff, reduceLT, eq_true hc8, eq_true (ix_nn h_e9), m_e9, eq_true hc10]
      refine SemF.seq rfl ?_
      refine SemF.reg true rfl ?_
      try simp only [gE, ↓gT, ↓reduceIte, reduceCtorEq, reduceAdd, reduceEqDiff, reduceLeDiff, reduceLT, eq_true hc8, eq_true (ix_nn h_e9), m_e9, eq_true hc10]; (repeat intro (_ : _ ≤ lim))
      refine SemF.seq rfl ?_
      refine SemF.seq rfl ?_
      refine SemF.dreg true rfl ?_
      try simp only [gE, ↓gT, ↓reduceIte, reduceCtorEq, reduceAdd, reduceEqDiff, reduceLeDiff, reduceLT, eq_true hc8, eq_true (ix_nn h_e9), m_e9, eq_true hc10]; (repeat intro (_ : _ ≤ lim))
      obtain ⟨r11, h_r11, h⟩ := bs h
      refine HCp.callE (K.laws_markText (IntKind.i64.wrap (t1_L0 + 1)) r11 h_r11) (by simp only [gE, ↓gT, ↓reduceIte, reduceCtorEq, reduceAdd, reduceEqDiff, reduceLeDiff, reduceLT, eq_true hc8, eq_true (ix_nn h_e9), m_e9, eq_true hc10]) (by simp only [scT, esT, and_self, true_and, and_true]) (by simp only [scT, esT, and_self, true_and, and_true]) ?_
      try simp only [gE, ↓gT, ↓reduceIte, reduceCtorEq, reduceAdd, reduceEqDiff, reduceLeDiff, reduceLT, eq_true hc8, eq_true (ix_nn h_e9), m_e9, eq_true hc10]; (repeat intro (_ : _ ≤ lim))
      by_cases hc12 : e9.S = r11
      · rw [if_pos hc12] at h
        refine SemF.cond rfl ?_
        simp only [gE, ↓gT, ↓reduceIte, reduceCtorEq, reduceAdd, reduceEqDiff, reduceLeDiff, reduceLT, eq_true hc8, eq_true (ix_nn h_e9), m_e9, eq_true hc10, eq_true hc12]
        refine SemF.skip rfl ?_
        simp only [gE, ↓gT, ↓reduceIte, reduceCtorEq, reduceAdd, reduceEqDiff, reduceLeDiff, reduceLT, eq_true hc8, eq_true (ix_nn h_e9), m_e9, eq_true hc10, eq_true hc12]
        refine SemF.seq rfl ?_
        refine SemF.reg true rfl ?_
        try simp only [gE, ↓gT, ↓reduceIte, reduceCtorEq, reduceAdd, reduceEqDiff, reduceLeDiff, reduceLT, eq_true hc8, eq_true (ix_nn h_e9), m_e9, eq_true hc10, eq_true hc12]; (repeat intro (_ : _ ≤ lim))
        refine SemF.seq rfl ?_
        refine SemF.seq rfl ?_
        refine SemF.reg true rfl ?_
        try simp only [gE, ↓gT, ↓reduceIte, reduceCtorEq, reduceAdd, reduceEqDiff, reduceLeDiff, reduceLT, eq_true hc8, eq_true (ix_nn h_e9), m_e9, eq_true hc10, eq_true hc12]; (repeat intro (_ : _ ≤ lim))
        by_cases hc13 : e9.Line = (IntKind.i64.wrap ((IntKind.i64.wrap (t1_L0 + 1)) + 1))
        · rw [if_pos hc13] at h
          refine SemF.cond rfl ?_
          simp only [gE, ↓gT, ↓reduceIte, reduceCtorEq, reduceAdd, reduceEqDiff, reduceLeDiff, reduceLT, eq_true hc8, eq_true (ix_nn h_e9), m_e9, eq_true hc10, eq_true hc12, eq_true hc13]
          refine SemF.skip rfl ?_
          simp only [gE, ↓gT, ↓reduceIte, reduceCtorEq, reduceAdd, reduceEqDiff, reduceLeDiff, reduceLT, eq_true hc8, eq_true (ix_nn h_e9), m_e9, eq_true hc10, eq_true hc12, eq_true hc13]
          refine SemF.seq rfl ?_
          refine SemF.reg true rfl ?_
          try simp only [gE, ↓gT, ↓reduceIte, reduceCtorEq, reduceAdd, reduceEqDiff, reduceLeDiff, reduceLT, eq_true hc8, eq_true (ix_nn h_e9), m_e9, eq_true hc10, eq_true hc12, eq_true hc13]; (repeat intro (_ : _ ≤ lim))
          refine SemF.seq rfl ?_
          refine SemF.seq rfl ?_
          refine SemF.reg true rfl ?_
          try simp only [gE, ↓gT, ↓reduceIte, reduceCtorEq, reduceAdd, reduceEqDiff, reduceLeDiff, reduceLT, eq_true hc8, eq_true (ix_nn h_e9), m_e9, eq_true hc10, eq_true hc12, eq_true hc13]; (repeat intro (_ : _ ≤ lim))
          by_cases hc14 : e9.Col = (IntKind.i64.wrap ((IntKind.i64.wrap ((IntKind.i64.wrap (t1_L0 + 1)) + 1)) + 1))
          · rw [if_pos hc14] at h
            refine SemF.cond rfl ?_
            simp only [gE, ↓gT, ↓reduceIte, reduceCtorEq, reduceAdd, reduceEqDiff, reduceLeDiff, reduceLT, eq_true hc8, eq_true (ix_nn h_e9), m_e9, eq_true hc10, eq_true hc12, eq_true hc13, eq_true hc14]
            refine SemF.skip rfl ?_
            simp only [gE, ↓gT, ↓reduceIte, reduceCtorEq, reduceAdd, reduceEqDiff, reduceLeDiff, reduceLT, eq_true hc8, eq_true (ix_nn h_e9), m_e9, eq_true hc10, eq_true hc12, eq_true hc13, eq_true hc14]
            refine SemF.reg true rfl ?_
            try simp only [gE, ↓gT, ↓reduceIte, reduceCtorEq, reduceAdd, reduceEqDiff, reduceLeDiff, reduceLT, eq_true hc8, eq_true (ix_nn h_e9), m_e9, eq_true hc10, eq_true hc12, eq_true hc13, eq_true hc14]; (repeat intro (_ : _ ≤ lim))
            refine SemF.reg true rfl ?_
            try simp only [gE, ↓gT, ↓reduceIte, reduceCtorEq, reduceAdd, reduceEqDiff, reduceLeDiff, reduceLT, eq_true hc8, eq_true (ix_nn h_e9), m_e9, eq_true hc10, eq_true hc12, eq_true hc13, eq_true hc14]; (repeat intro (_ : _ ≤ lim))
            refine SemL.weak (sel := [0]) ⟨by simp only [gE, ↓gT, ↓reduceIte, reduceCtorEq, reduceAdd, reduceEqDiff, reduceLeDiff, reduceLT, hwT, selS, erT, eq_true hc8, eq_true (ix_nn h_e9), m_e9, eq_true hc10, eq_true hc12, eq_true hc13, eq_true hc14], by decide, by decide, by simp only [gE, ↓gT, ↓reduceIte, reduceCtorEq, reduceAdd, reduceEqDiff, reduceLeDiff, reduceLT, hwT, selS, erT, subR, eq_true hc8, eq_true (ix_nn h_e9), m_e9, eq_true hc10, eq_true hc12, eq_true hc13, eq_true hc14], by simp only [gE, ↓gT, ↓reduceIte, reduceCtorEq, reduceAdd, reduceEqDiff, reduceLeDiff, reduceLT, hwT, selS, erT, scT, esT, eq_true hc8, eq_true (ix_nn h_e9), m_e9, eq_true hc10, eq_true hc12, eq_true hc13, eq_true hc14], by simp only [gE, ↓gT, ↓reduceIte, reduceCtorEq, reduceAdd, reduceEqDiff, reduceLeDiff, reduceLT, hwT, selS, erT, scT, esT, eq_true hc8, eq_true (ix_nn h_e9), m_e9, eq_true hc10, eq_true hc12, eq_true hc13, eq_true hc14]⟩ (ih_laws_heldTokS_p_L0 (p0, (IntKind.i64.wrap ((IntKind.i64.wrap ((IntKind.i64.wrap ((IntKind.i64.wrap (t1_L0 + 1)) + 1)) + 1)) + 1)), (IntKind.i64.wrap (t5_L0 + 1))) out h Q hx hr)
          · rw [if_neg hc14] at h
            refine SemF.cond rfl ?_
            simp only [gE, ↓gT, ↓reduceIte, reduceCtorEq, reduceAdd, reduceEqDiff, reduceLeDiff, reduceLT, eq_true hc8, eq_true (ix_nn h_e9), m_e9, eq_true hc10, eq_true hc12, eq_true hc13, eq_false hc14]
            refine SemF.seq rfl ?_
            refine SemF.reg true rfl ?_
            try simp only [gE, ↓gT, ↓reduceIte, reduceCtorEq, reduceAdd, reduceEqDiff, reduceLeDiff, reduceLT, eq_true hc8, eq_true (ix_nn h_e9), m_e9, eq_true hc10, eq_true hc12, eq_true hc13, eq_false hc14]; (repeat intro (_ : _ ≤ lim))
            refine SemF.ret rfl ?_
            try simp only [gE, ↓gT, ↓reduceIte, reduceCtorEq, reduceAdd, reduceEqDiff, reduceLeDiff, reduceLT, eq_true hc8, eq_true (ix_nn h_e9), m_e9, eq_true hc10, eq_true hc12, eq_true hc13, eq_false hc14]; (repeat intro (_ : _ ≤ lim))
            obtain rfl := Option.some.inj h
            refine hr _ rfl _ _ ?_
            simp only [gE, ↓gT, ↓reduceIte, reduceCtorEq, reduceAdd, reduceEqDiff, reduceLeDiff, reduceLT, RetB_def, eq_true hc8, eq_true (ix_nn h_e9), m_e9, eq_true hc10, eq_true hc12, eq_true hc13, eq_false hc14]
            exact ⟨[0], by simp only [gE, ↓gT, ↓reduceIte, reduceCtorEq, reduceAdd, reduceEqDiff, reduceLeDiff, reduceLT, hwT, selS, erT, eq_true hc8, eq_true (ix_nn h_e9), m_e9, eq_true hc10, eq_true hc12, eq_true hc13, eq_false hc14], by simp only [gE, ↓gT, ↓reduceIte, reduceCtorEq, reduceAdd, reduceEqDiff, reduceLeDiff, reduceLT, hwT, selS, erT, eq_true hc8, eq_true (ix_nn h_e9), m_e9, eq_true hc10, eq_true hc12, eq_true hc13, eq_false hc14], by decide, by decide, by simp only [gE, ↓gT, ↓reduceIte, reduceCtorEq, reduceAdd, reduceEqDiff, reduceLeDiff, reduceLT, hwT, selS, erT, scT, esT], by simp only [gE, ↓gT, ↓reduceIte, reduceCtorEq, reduceAdd, reduceEqDiff, reduceLeDiff, reduceLT, hwT, selS, erT, scT, esT]⟩
        · rw [if_neg hc13] at h
          refine SemF.cond rfl ?_
          simp only [gE, ↓gT, ↓reduceIte, reduceCtorEq, reduceAdd, reduceEqDiff, reduceLeDiff, reduceLT, eq_true hc8, eq_true (ix_nn h_e9), m_e9, eq_true hc10, eq_true hc12, eq_false hc13]
          refine SemF.seq rfl ?_
          refine SemF.reg true rfl ?_
          try simp only [gE, ↓gT, ↓reduceIte, reduceCtorEq, reduceAdd, reduceEqDiff, reduceLeDiff, reduceLT, eq_true hc8, eq_true (ix_nn h_e9), m_e9, eq_true hc10, eq_true hc12, eq_false hc13]; (repeat intro (_ : _ ≤ lim))
          refine SemF.ret rfl ?_
          try simp only [gE, ↓gT, ↓reduceIte, reduceCtorEq, reduceAdd, reduceEqDiff, reduceLeDiff, reduceLT, eq_true hc8, eq_true (ix_nn h_e9), m_e9, eq_true hc10, eq_true hc12, eq_false hc13]; (repeat intro (_ : _ ≤ lim))
          obtain rfl := Option.some.inj h
          refine hr _ rfl _ _ ?_
          simp only [gE, ↓gT, ↓reduceIte, reduceCtorEq, reduceAdd, reduceEqDiff, reduceLeDiff, reduceLT, RetB_def, eq_true hc8, eq_true (ix_nn h_e9), m_e9, eq_true hc10, eq_true hc12, eq_false hc13]
          exact ⟨[0], by simp only [gE, ↓gT, ↓reduceIte, reduceCtorEq, reduceAdd, reduceEqDiff, reduceLeDiff, reduceLT, hwT, selS, erT, eq_true hc8, eq_true (ix_nn h_e9), m_e9, eq_true hc10, eq_true hc12, eq_false hc13], by simp only [gE, ↓gT, ↓reduceIte, reduceCtorEq, reduceAdd, reduceEqDiff, reduceLeDiff, reduceLT, hwT, selS, erT, eq_true hc8, eq_true (ix_nn h_e9), m_e9, eq_true hc10, eq_true hc12, eq_false hc13], by decide, by decide, by simp only [gE, ↓gT, ↓reduceIte, reduceCtorEq, reduceAdd, reduceEqDiff, reduceLeDiff, reduceLT, hwT, selS, erT, scT, esT], by simp only [gE, ↓gT, ↓reduceIte, reduceCtorEq, reduceAdd, reduceEqDiff, reduceLeDiff, reduceLT, hwT, selS, erT, scT, esT]⟩
      · rw [if_neg hc12] at h
        refine SemF.cond rfl ?_
        simp only [gE, ↓gT, ↓reduceIte, reduceCtorEq, reduceAdd, reduceEqDiff, reduceLeDiff, reduceLT, eq_true hc8, eq_true (ix_nn h_e9), m_e9, eq_true hc10, eq_false hc12]
        refine SemF.seq rfl ?_
        refine SemF.reg true rfl ?_
        try simp only [gE, ↓gT, ↓reduceIte, reduceCtorEq, reduceAdd, reduceEqDiff, reduceLeDiff, reduceLT, eq_true hc8, eq_true (ix_nn h_e9), m_e9, eq_true hc10, eq_false hc12]; (repeat intro (_ : _ ≤ lim))
        refine SemF.ret rfl ?_
        try simp only [gE, ↓gT, ↓reduceIte, reduceCtorEq, reduceAdd, reduceEqDiff, reduceLeDiff, reduceLT, eq_true hc8, eq_true (ix_nn h_e9), m_e9, eq_true hc10, eq_false hc12]; (repeat intro (_ : _ ≤ lim))
        obtain rfl := Option.some.inj h
        refine hr _ rfl _ _ ?_
        simp only [gE, ↓gT, ↓reduceIte, reduceCtorEq, reduceAdd, reduceEqDiff, reduceLeDiff, reduceLT, RetB_def, eq_true hc8, eq_true (ix_nn h_e9), m_e9, eq_true hc10, eq_false hc12]
        exact ⟨[0], by simp only [gE, ↓gT, ↓reduceIte, reduceCtorEq, reduceAdd, reduceEqDiff, reduceLeDiff, reduceLT, hwT, selS, erT, eq_true hc8, eq_true (ix_nn h_e9), m_e9, eq_true hc10, eq_false hc12], by simp only [gE, ↓gT, ↓reduceIte, reduceCtorEq, reduceAdd, reduceEqDiff, reduceLeDiff, reduceLT, hwT, selS, erT, eq_true hc8, eq_true (ix_nn h_e9), m_e9, eq_true hc10, eq_false hc12], by decide, by decide, by simp only [gE, ↓gT, ↓reduceIte, reduceCtorEq, reduceAdd, reduceEqDiff, reduceLeDiff, reduceLT, hwT, selS, erT, scT, esT], by simp only [gE, ↓gT, ↓reduceIte, reduceCtorEq, reduceAdd, reduceEqDiff, reduceLeDiff, reduceLT, hwT, selS, erT, scT, esT]⟩
    · rw [if_neg hc10] at h
      refine SemF.cond rfl ?_
      simp only [gE, ↓gT, ↓reduceIte, reduceCtorEq, reduceAdd, reduceEqDiff, reduceLeDiff, reduceLT, eq_true hc8, eq_true (ix_nn h_e9), m_e9, eq_false hc10]
      refine SemF.seq rfl ?_
      refine SemF.reg true rfl ?_
      try simp only [gE, ↓gT, ↓reduceIte, reduceCtorEq, reduceAdd, reduceEqDiff, reduceLeDiff, reduceLT, eq_true hc8, eq_true (ix_nn h_e9), m_e9, eq_false hc10]; (repeat intro (_ : _ ≤ lim))
      refine SemF.ret rfl ?_
      try simp only [gE, ↓gT, ↓reduceIte, reduceCtorEq, reduceAdd, reduceEqDiff, reduceLeDiff, reduceLT, eq_true hc8, eq_true (ix_nn h_e9), m_e9, eq_false hc10]; (repeat intro (_ : _ ≤ lim))
      obtain rfl := Option.some.inj h
      refine hr _ rfl _ _ ?_
      simp only [gE, ↓gT, ↓reduceIte, reduceCtorEq, reduceAdd, reduceEqDiff, reduceLeDiff, reduceLT, RetB_def, eq_true hc8, eq_true (ix_nn h_e9), m_e9, eq_false hc10]
      exact ⟨[0], by simp only [gE, ↓gT, ↓reduceIte, reduceCtorEq, reduceAdd, reduceEqDiff, reduceLeDiff, reduceLT, hwT, selS, erT, eq_true hc8, eq_true (ix_nn h_e9), m_e9, eq_false hc10], by simp only [gE, ↓gT, ↓reduceIte, reduceCtorEq, reduceAdd, reduceEqDiff, reduceLeDiff, reduceLT, hwT, selS, erT, eq_true hc8, eq_true (ix_nn h_e9), m_e9, eq_false hc10], by decide, by decide, by simp only [gE, ↓gT, ↓reduceIte, reduceCtorEq, reduceAdd, reduceEqDiff, reduceLeDiff, reduceLT, hwT, selS, erT, scT, esT], by simp only [gE, ↓gT, ↓reduceIte, reduceCtorEq, reduceAdd, reduceEqDiff, reduceLeDiff, reduceLT, hwT, selS, erT, scT, esT]⟩
  · rw [if_neg hc8] at h
    refine SemF.cond rfl ?_
    simp only [gE, ↓gT, ↓reduceIte, reduceCtorEq, reduceAdd, reduceEqDiff, reduceLeDiff, reduceLT, eq_false hc8]
    refine SemF.exit rfl ?_
    simp only [gE, ↓gT, ↓reduceIte, reduceCtorEq, reduceAdd, reduceEqDiff, reduceLeDiff, reduceLT, eq_false hc8]
    obtain rfl := Option.some.inj h
    refine hx _ rfl _ _ [0] ⟨by simp only [gE, ↓gT, ↓reduceIte, reduceCtorEq, reduceAdd, reduceEqDiff, reduceLeDiff, reduceLT, hwT, selS, erT, eq_false hc8], by decide, by decide, by simp only [gE, ↓gT, ↓reduceIte, reduceCtorEq, reduceAdd, reduceEqDiff, reduceLeDiff, reduceLT, hwT, selS, erT, subR, eq_false hc8], by simp only [gE, ↓gT, ↓reduceIte, reduceCtorEq, reduceAdd, reduceEqDiff, reduceLeDiff, reduceLT, hwT, selS, erT, scT, esT, eq_false hc8], by simp only [gE, ↓gT, ↓reduceIte, reduceCtorEq, reduceAdd, reduceEqDiff, reduceLeDiff, reduceLT, hwT, selS, erT, scT, esT, eq_false hc8]⟩
theorem laws_heldTokS_p : ∀ (x : ((List Tok) × Int)) (r : (Int × (List Tok))), M.laws_heldTokS_p x = some r → HC P F.laws_heldTokS [(.own 0 x.1.length), (.int .i64 x.2)] [(.arr 4 (List.map Tok.enc x.1) true)] (fun r_ s_ => r_ = (HV.int .i64 r.1) ∧ s_ = [(.arr 4 (List.map Tok.enc r.2) true)]) := by
  intro x r h
  obtain ⟨p0, p1⟩ := x
  unfold M.laws_heldTokS_p at h
  try dsimp only at h
  refine HC.mkB S.laws_heldTokS (by simp [H.laws_heldTokS]) ?_
  simp only [gE, ↓gT, ↓reduceIte, reduceCtorEq, reduceAdd, reduceEqDiff, reduceLeDiff, reduceLT, H.laws_heldTokS]
  refine SemF.seq rfl ?_
  refine SemF.reg true rfl ?_
  try simp only [gE, ↓gT, ↓reduceIte, reduceCtorEq, reduceAdd, reduceEqDiff, reduceLeDiff, reduceLT]; (repeat intro (_ : _ ≤ lim))
  refine SemF.seq rfl ?_
  refine SemF.seq rfl ?_
  refine SemF.reg true rfl ?_
  try simp only [gE, ↓gT, ↓reduceIte, reduceCtorEq, reduceAdd, reduceEqDiff, reduceLeDiff, reduceLT]; (repeat intro (_ : _ ≤ lim))
  refine SemF.block rfl ?_
  obtain ⟨s15, h_s15, h⟩ := bs h
  rcases s15 with r16 | v17
  · dsimp only at h
    refine SemF.loop rfl ?_
    refine SemL.weak (sel := [0]) ⟨by simp only [gE, ↓gT, ↓reduceIte, reduceCtorEq, reduceAdd, reduceEqDiff, reduceLeDiff, reduceLT, hwT, selS, erT], by decide, by decide, by simp only [gE, ↓gT, ↓reduceIte, reduceCtorEq, reduceAdd, reduceEqDiff, reduceLeDiff, reduceLT, hwT, selS, erT, subR], by simp only [gE, ↓gT, ↓reduceIte, reduceCtorEq, reduceAdd, reduceEqDiff, reduceLeDiff, reduceLT, hwT, selS, erT, scT, esT], by simp only [gE, ↓gT, ↓reduceIte, reduceCtorEq, reduceAdd, reduceEqDiff, reduceLeDiff, reduceLT, hwT, selS, erT, scT, esT]⟩ (K.laws_heldTokS_p_L0 (p0, p1, 0) (.inl r16) h_s15 _ ?_ ?_)
    · intro v hv; cases hv
    · intro r' hr' env st hy
      cases hr'
      simp only [gE, ↓gT, ↓reduceIte, reduceCtorEq, reduceAdd, reduceEqDiff, reduceLeDiff, reduceLT]
      obtain rfl := Option.some.inj h
      exact hy
  · dsimp only at h
    refine SemF.loop rfl ?_
    refine SemL.weak (sel := [0]) ⟨by simp only [gE, ↓gT, ↓reduceIte, reduceCtorEq, reduceAdd, reduceEqDiff, reduceLeDiff, reduceLT, hwT, selS, erT], by decide, by decide, by simp only [gE, ↓gT, ↓reduceIte, reduceCtorEq, reduceAdd, reduceEqDiff, reduceLeDiff, reduceLT, hwT, selS, erT, subR], by simp only [gE, ↓gT, ↓reduceIte, reduceCtorEq, reduceAdd, reduceEqDiff, reduceLeDiff, reduceLT, hwT, selS, erT, scT, esT], by simp only [gE, ↓gT, ↓reduceIte, reduceCtorEq, reduceAdd, reduceEqDiff, reduceLeDiff, reduceLT, hwT, selS, erT, scT, esT]⟩ (K.laws_heldTokS_p_L0 (p0, p1, 0) (.inr v17) h_s15 _ ?_ ?_)
    rotate_left
    · intro r' hr'; cases hr'
    intro v hv env st sel hw
    cases hv
    simp only [gE, ↓gT, ↓reduceIte, reduceCtorEq, reduceAdd, reduceEqDiff, reduceLeDiff, reduceLT]
    first | refine SemF.weak hw ?_ | refine SemL.weak hw ?_
    refine SemF.seq rfl ?_
    refine SemF.reg true rfl ?_
    try simp only [gE, ↓gT, ↓reduceIte, reduceCtorEq, reduceAdd, reduceEqDiff, reduceLeDiff, reduceLT]; (repeat intro (_ : _ ≤ lim))
    refine SemF.ret rfl ?_
    try simp only [gE, ↓gT, ↓reduceIte, reduceCtorEq, reduceAdd, reduceEqDiff, reduceLeDiff, reduceLT]; (repeat intro (_ : _ ≤ lim))
    obtain rfl := Option.some.inj h
    simp only [gE, ↓gT, ↓reduceIte, reduceCtorEq, reduceAdd, reduceEqDiff, reduceLeDiff, reduceLT, RetB_def]
    exact ⟨[0], by simp only [gE, ↓gT, ↓reduceIte, reduceCtorEq, reduceAdd, reduceEqDiff, reduceLeDiff, reduceLT, hwT, selS, erT], by simp only [gE, ↓gT, ↓reduceIte, reduceCtorEq, reduceAdd, reduceEqDiff, reduceLeDiff, reduceLT, hwT, selS, erT], by decide, by decide, by simp only [gE, ↓gT, ↓reduceIte, reduceCtorEq, reduceAdd, reduceEqDiff, reduceLeDiff, reduceLT, hwT, selS, erT, scT, esT], by simp only [gE, ↓gT, ↓reduceIte, reduceCtorEq, reduceAdd, reduceEqDiff, reduceLeDiff, reduceLT, hwT, selS, erT, scT, esT]⟩
theorem laws_eqTok : ∀ (x : (Tok × Tok)) (r : Bool), M.laws_eqTok x = some r → HCp P F.laws_eqTok [(Tok.enc x.1), (Tok.enc x.2)] (HV.bool r) := by
  intro x r h
  obtain ⟨p0, p1⟩ := x
  unfold M.laws_eqTok at h
  try dsimp only at h
  refine HCp.mkF S.laws_eqTok (by simp [H.laws_eqTok]) (by simp only [scT, esT, and_self, true_and, and_true]) ?_
  simp only [gE, ↓gT, ↓reduceIte, reduceCtorEq, reduceAdd, reduceEqDiff, reduceLeDiff, reduceLT, H.laws_eqTok]
  refine SemF.seq rfl ?_
  refine SemF.reg true rfl ?_
  try simp only [gE, ↓gT, ↓reduceIte, reduceCtorEq, reduceAdd, reduceEqDiff, reduceLeDiff, reduceLT]; (repeat intro (_ : _ ≤ lim))
  refine SemF.seq rfl ?_
  refine SemF.seq rfl ?_
  refine SemF.reg true rfl ?_
  try simp only [gE, ↓gT, ↓reduceIte, reduceCtorEq, reduceAdd, reduceEqDiff, reduceLeDiff, reduceLT]; (repeat intro (_ : _ ≤ lim))
  by_cases hc1 : p0.K = p1.K
  · rw [if_pos hc1] at h
    refine SemF.cond rfl ?_
    simp only [gE, ↓gT, ↓reduceIte, reduceCtorEq, reduceAdd, reduceEqDiff, reduceLeDiff, reduceLT, eq_true hc1]
    refine SemF.skip rfl ?_
    simp only [gE, ↓gT, ↓reduceIte, reduceCtorEq, reduceAdd, reduceEqDiff, reduceLeDiff, reduceLT, eq_true hc1]
    refine SemF.seq rfl ?_
    refine SemF.seq rfl ?_
    refine SemF.reg true rfl ?_
    try simp only [gE, ↓gT, ↓reduceIte, reduceCtorEq, reduceAdd, reduceEqDiff, reduceLeDiff, reduceLT, eq_true hc1]; (repeat intro (_ : _ ≤ lim))
    by_cases hc2 : p0.S = p1.S
    · rw [if_pos hc2] at h
      refine SemF.cond rfl ?_
      simp only [gE, ↓gT, ↓reduceIte, reduceCtorEq, reduceAdd, reduceEqDiff, reduceLeDiff, reduceLT, eq_true hc1, eq_true hc2]
      refine SemF.skip rfl ?_
      simp only [gE, ↓gT, ↓reduceIte, reduceCtorEq, reduceAdd, reduceEqDiff, reduceLeDiff, reduceLT, eq_true hc1, eq_true hc2]
      refine SemF.seq rfl ?_
      refine SemF.seq rfl ?_
      refine SemF.reg true rfl ?_
      try simp only [gE, ↓gT, ↓reduceIte, reduceCtorEq, reduceAdd, reduceEqDiff, reduceLeDiff, reduceLT, eq_true hc1, eq_true hc2]; (repeat intro (_ : _ ≤ lim))
      by_cases hc3 : p0.Line = p1.Line
      · rw [if_pos hc3] at h
        refine SemF.cond rfl ?_
        simp only [gE, ↓gT, ↓reduceIte, reduceCtorEq, reduceAdd, reduceEqDiff, reduceLeDiff, reduceLT, eq_true hc1, eq_true hc2, eq_true hc3]
        refine SemF.skip rfl ?_
        simp only [gE, ↓gT, ↓reduceIte, reduceCtorEq, reduceAdd, reduceEqDiff, reduceLeDiff, reduceLT, eq_true hc1, eq_true hc2, eq_true hc3]
        refine SemF.seq rfl ?_
        refine SemF.seq rfl ?_
        refine SemF.reg true rfl ?_
        try simp only [gE, ↓gT, ↓reduceIte, reduceCtorEq, reduceAdd, reduceEqDiff, reduceLeDiff, reduceLT, eq_true hc1, eq_true hc2, eq_true hc3]; (repeat intro (_ : _ ≤ lim))
        by_cases hc4 : p0.Col = p1.Col
        · rw [if_pos hc4] at h
          refine SemF.cond rfl ?_
          simp only [gE, ↓gT, ↓reduceIte, reduceCtorEq, reduceAdd, reduceEqDiff, reduceLeDiff, reduceLT, eq_true hc1, eq_true hc2, eq_true hc3, eq_true hc4]
          refine SemF.skip rfl ?_
          simp only [gE, ↓gT, ↓reduceIte, reduceCtorEq, reduceAdd, reduceEqDiff, reduceLeDiff, reduceLT, eq_true hc1, eq_true hc2, eq_true hc3, eq_true hc4]
          refine SemF.seq rfl ?_
          refine SemF.reg true rfl ?_
          try simp only [gE, ↓gT, ↓reduceIte, reduceCtorEq, reduceAdd, reduceEqDiff, reduceLeDiff, reduceLT, eq_true hc1, eq_true hc2, eq_true hc3, eq_true hc4]; (repeat intro (_ : _ ≤ lim))
          refine SemF.ret rfl ?_
          try simp only [gE, ↓gT, ↓reduceIte, reduceCtorEq, reduceAdd, reduceEqDiff, reduceLeDiff, reduceLT, eq_true hc1, eq_true hc2, eq_true hc3, eq_true hc4]; (repeat intro (_ : _ ≤ lim))
          obtain rfl := Option.some.inj h
          simp only [gE, ↓gT, ↓reduceIte, reduceCtorEq, reduceAdd, reduceEqDiff, reduceLeDiff, reduceLT, RetP_def, eq_true hc1, eq_true hc2, eq_true hc3, eq_true hc4]
        · rw [if_neg hc4] at h
          refine SemF.cond rfl ?_
          simp only [gE, ↓gT, ↓reduceIte, reduceCtorEq, reduceAdd, reduceEqDiff, reduceLeDiff, reduceLT, eq_true hc1, eq_true hc2, eq_true hc3, eq_false hc4]
          refine SemF.seq rfl ?_
          refine SemF.reg true rfl ?_
          try simp only [gE, ↓gT, ↓reduceIte, reduceCtorEq, reduceAdd, reduceEqDiff, reduceLeDiff, reduceLT, eq_true hc1, eq_true hc2, eq_true hc3, eq_false hc4]; (repeat intro (_ : _ ≤ lim))
          refine SemF.ret rfl ?_
          try simp only [gE, ↓gT, ↓reduceIte, reduceCtorEq, reduceAdd, reduceEqDiff, reduceLeDiff, reduceLT, eq_true hc1, eq_true hc2, eq_true hc3, eq_false hc4]; (repeat intro (_ : _ ≤ lim))
          obtain rfl := Option.some.inj h
          simp only [gE, ↓gT, ↓reduceIte, reduceCtorEq, reduceAdd, reduceEqDiff, reduceLeDiff, reduceLT, RetP_def, eq_true hc1, eq_true hc2, eq_true hc3, eq_false hc4]
      · rw [if_neg hc3] at h
        refine SemF.cond rfl ?_
        simp only [gE, ↓gT, ↓reduceIte, reduceCtorEq, reduceAdd, reduceEqDiff, reduceLeDiff, reduceLT, eq_true hc1, eq_true hc2, eq_false hc3]
        refine SemF.seq rfl ?_
        refine SemF.reg true rfl ?_
        try simp only [gE, ↓gT, ↓reduceIte, reduceCtorEq, reduceAdd, reduceEqDiff, reduceLeDiff, reduceLT, eq_true hc1, eq_true hc2, eq_false hc3]; (repeat intro (_ : _ ≤ lim))
        refine SemF.ret rfl ?_
        try simp only [gE, ↓gT, ↓reduceIte, reduceCtorEq, reduceAdd, reduceEqDiff, reduceLeDiff, reduceLT, eq_true hc1, eq_true hc2, eq_false hc3]; (repeat intro (_ : _ ≤ lim))
        obtain rfl := Option.some.inj h
        simp only [gE, ↓gT, ↓reduceIte, reduceCtorEq, reduceAdd, reduceEqDiff, reduceLeDiff, reduceLT, RetP_def, eq_true hc1, eq_true hc2, eq_false hc3]
    · rw [if_neg hc2] at h
      refine SemF.cond rfl ?_
      simp only [gE, ↓gT, ↓reduceIte, reduceCtorEq, reduceAdd, reduceEqDiff, reduceLeDiff, reduceLT, eq_true hc1, eq_false hc2]
      refine SemF.seq rfl ?_
      refine SemF.reg true rfl ?_
      try simp only [gE, ↓gT, ↓reduceIte, reduceCtorEq, reduceAdd, reduceEqDiff, reduceLeDiff, reduceLT, eq_true hc1, eq_false hc2]; (repeat intro (_ : _ ≤ lim))
      refine SemF.ret rfl ?_
      try simp only [gE, ↓gT, ↓reduceIte, reduceCtorEq, reduceAdd, reduceEqDiff, reduceLeDiff, reduceLT, eq_true hc1, eq_false hc2]; (repeat intro (_ : _ ≤ lim))
      obtain rfl := Option.some.inj h
      simp only [gE, ↓gT, ↓reduceIte, reduceCtorEq, reduceAdd, reduceEqDiff, reduceLeDiff, reduceLT, RetP_def, eq_true hc1, eq_false hc2]
  · rw [if_neg hc1] at h
    refine SemF.cond rfl ?_
    simp only [gE, ↓gT, ↓reduceIte, reduceCtorEq, reduceAdd, reduceEqDiff, reduceLeDiff, reduceLT, eq_false hc1]
    refine SemF.seq rfl ?_
    refine SemF.reg true rfl ?_
    try simp only [gE, ↓gT, ↓reduceIte, reduceCtorEq, reduceAdd, reduceEqDiff, reduceLeDiff, reduceLT, eq_false hc1]; (repeat intro (_ : _ ≤ lim))
    refine SemF.ret rfl ?_
    try simp only [gE, ↓gT, ↓reduceIte, reduceCtorEq, reduceAdd, reduceEqDiff, reduceLeDiff, reduceLT, eq_false hc1]; (repeat intro (_ : _ ≤ lim))
    obtain rfl := Option.some.inj h
    simp only [gE, ↓gT, ↓reduceIte, reduceCtorEq, reduceAdd, reduceEqDiff, reduceLeDiff, reduceLT, RetP_def, eq_false hc1]
end K
end W
