import Derived.Test.YtnhdobhfebiggaaLPrf9
namespace W
set_option linter.unusedSimpArgs false
set_option linter.unusedVariables false
open Go HL S
open Nat (reduceAdd reduceEqDiff reduceLeDiff reduceSub reduceMul reduceLT)
set_option linter.unusedVariables false
set_option maxRecDepth 100000
set_option maxHeartbeats 4000000
namespace K
theorem laws_FnLex_L0 : ∀ (x : (((List Tok) × Bool) × ((List Tok) × Bool) × Int)) (out : (Sum Bool Unit)), M.laws_FnLex_L0 x = some out → ∀ Q : HExit → Env → St → Prop, (∀ v, out = .inr v → ∀ env st sel, Weak 0 sel [(4, (.own 0 x.1.1.length)), (11, (.own 1 x.2.1.1.length)), (12, (.bool x.2.1.2))] [(.arr 4 (List.map Tok.enc x.1.1) false), (.arr 4 (List.map Tok.enc x.2.1.1) true)] env st → Q (.exit 0) env st) → (∀ r, out = .inl r → ∀ env st, RetP [(2, none)] (HV.bool r) env st → Q .ret env st) → SemL P H.laws_FnLex.ntmps 0 H.laws_FnLex_l15 [(4, (.own 0 x.1.1.length)), (11, (.own 1 x.2.1.1.length)), (12, (.bool x.2.1.2)), (13, (.int .i64 x.2.2))] [(.arr 4 (List.map Tok.enc x.1.1) false), (.arr 4 (List.map Tok.enc x.2.1.1) true)] Q := by
  refine M.laws_FnLex_L0.partial_correctness (motive := fun x out => ∀ Q : HExit → Env → St → Prop, (∀ v, out = .inr v → ∀ env st sel, Weak 0 sel [(4, (.own 0 x.1.1.length)), (11, (.own 1 x.2.1.1.length)), (12, (.bool x.2.1.2))] [(.arr 4 (List.map Tok.enc x.1.1) false), (.arr 4 (List.map Tok.enc x.2.1.1) true)] env st → Q (.exit 0) env st) → (∀ r, out = .inl r → ∀ env st, RetP [(2, none)] (HV.bool r) env st → Q .ret env st) → SemL P H.laws_FnLex.ntmps 0 H.laws_FnLex_l15 [(4, (.own 0 x.1.1.length)), (11, (.own 1 x.2.1.1.length)), (12, (.bool x.2.1.2)), (13, (.int .i64 x.2.2))] [(.arr 4 (List.map Tok.enc x.1.1) false), (.arr 4 (List.map Tok.enc x.2.1.1) true)] Q) ?_
  intro f_laws_FnLex_L0 ih_laws_FnLex_L0 x out h
  obtain ⟨r4, r19, t13_L0⟩ := x
  try dsimp only at h
  intro Q hx hr
  refine SemL.round ?_
  try dsimp only at hx
  refine SemF.seq rfl ?_
  refine SemF.seq rfl ?_
  refine SemF.reg true rfl ?_
  try simp only [gE, ↓gT, ↓reduceIte, reduceCtorEq, reduceAdd, reduceEqDiff, reduceLeDiff, reduceLT]; (repeat intro (_ : _ ≤ lim))
  (repeat intro (_ : _ ≤ lim))
  by_cases hc33 : t13_L0 < ((r4.1.length : Nat) : Int)
  · rw [if_pos hc33] at h
    try simp only [gE, ↓gT, ↓reduceIte, reduceCtorEq, reduceAdd, reduceEqDiff, reduceLeDiff, reduceLT, eq_true hc33]; (repeat intro (_ : _ ≤ lim))
    (repeat intro (_ : _ ≤ lim))
    by_cases hc34 : t13_L0 < ((r19.1.length : Nat) : Int)
    · rw [if_pos hc34] at h
      refine SemF.cond rfl ?_
      simp only [gE, ↓gT, ↓reduceIte, reduceCtorEq, reduceAdd, reduceEqDiff, reduceLeDiff, reduceLT, eq_true hc33, eq_true hc34]
      refine SemF.skip rfl ?_
      simp only [gE, ↓gT, ↓reduceIte, reduceCtorEq, reduceAdd, reduceEqDiff, reduceLeDiff, reduceLT, eq_true hc33, eq_true hc34]
      refine SemF.seq rfl ?_
      refine SemF.block rfl ?_
      refine SemF.seq rfl ?_
      refine SemF.dreg true rfl ?_
      try simp only [gE, ↓gT, ↓reduceIte, reduceCtorEq, reduceAdd, reduceEqDiff, reduceLeDiff, reduceLT, eq_true hc33, eq_true hc34]; (repeat intro (_ : _ ≤ lim))
      obtain ⟨e35, h_e35, h⟩ := bs h
      have m_e35 := ixm (f := Tok.enc) (ix_get h_e35)
      try simp only [gE, ↓gT, ↓reduceIte, reduceCtorEq, reduceAdd, reduceEqDiff, reduceLeDiff, reduceLT, eq_true hc33, eq_true hc34, eq_true (ix_nn h_e35), m_e35]; (repeat intro (_ : _ ≤ lim))
      obtain ⟨e36, h_e36, h⟩ := bs h
      have m_e36 := ixm (f := Tok.enc) (ix_get h_e36)
      try simp only [gE, ↓gT, ↓reduceIte, reduceCtorEq, reduceAdd, reduceEqDiff, reduceLeDiff, reduceLT, eq_true hc33, eq_true hc34, eq_true (ix_nn h_e35), m_e35, eq_true (ix_nn h_e36), m_e36]; (repeat intro (_ : _ ≤ lim))
      by_cases hc37 : e35.K = e36.K
      · rw [if_pos hc37] at h
        try simp only [gE, ↓gT, ↓reduceIte, reduceCtorEq, reduceAdd, reduceEqDiff, reduceLeDiff, reduceLT, eq_true hc33, eq_true hc34, eq_true (ix_nn h_e35), m_e35, eq_true (ix_nn h_e36), m_e36, eq_true hc37]; (repeat intro (_ : _ ≤ lim))
        by_cases hc38 : e35.S = e36.S
        · rw [if_pos hc38] at h
          try simp only [gE, ↓gT, ↓reduceIte, reduceCtorEq, reduceAdd, reduceEqDiff, reduceLeDiff, reduceLT, eq_true hc33, eq_true hc34, eq_true (ix_nn h_e35), m_e35, eq_true (ix_nn h_e36), m_e36, eq_true hc37, eq_true hc38]; (repeat intro (_ : _ ≤ lim))
          by_cases hc39 : e36.Line = 1
          · rw [if_pos hc39] at h
            try simp only [gE, ↓gT, ↓reduceIte, reduceCtorEq, reduceAdd, reduceEqDiff, reduceLeDiff, reduceLT, eq_true hc33, eq_true hc34, eq_true (ix_nn h_e35), m_e35, eq_true (ix_nn h_e36), m_e36, eq_true hc37, eq_true hc38, eq_true hc39]; (repeat intro (_ : _ ≤ lim))
            by_cases hc40 : 0 < t13_L0
            · rw [if_pos hc40] at h
              try simp only [gE, ↓gT, ↓reduceIte, reduceCtorEq, reduceAdd, reduceEqDiff, reduceLeDiff, reduceLT, eq_true hc33, eq_true hc34, eq_true (ix_nn h_e35), m_e35, eq_true (ix_nn h_e36), m_e36, eq_true hc37, eq_true hc38, eq_true hc39, eq_true hc40]; (repeat intro (_ : _ ≤ lim))
              obtain ⟨e41, h_e41, h⟩ := bs h
              have m_e41 := ixm (f := Tok.enc) (ix_get h_e41)
              have g_e41 : (IntKind.i64.wrap (t13_L0 - 1)) < ((r4.1.length : Nat) : Int) := by have q_ := ix_ltI h_e41; simpa only [List.length_set, List.length_append, List.length_replicate, List.length_cons, List.length_nil, Nat.zero_add, reduceAdd] using q_
              try simp only [gE, ↓gT, ↓reduceIte, reduceCtorEq, reduceAdd, reduceEqDiff, reduceLeDiff, reduceLT, eq_true hc33, eq_true hc34, eq_true (ix_nn h_e35), m_e35, eq_true (ix_nn h_e36), m_e36, eq_true hc37, eq_true hc38, eq_true hc39, eq_true hc40, eq_true (ix_nn h_e41), m_e41, eq_true g_e41]; (repeat intro (_ : _ ≤ lim))
              by_cases hc42 : e35.Line < e41.Line
              · rw [if_pos hc42] at h
                try simp only [gE, ↓gT, ↓reduceIte, reduceCtorEq, reduceAdd, reduceEqDiff, reduceLeDiff, reduceLT, eq_true hc33, eq_true hc34, eq_true (ix_nn h_e35), m_e35, eq_true (ix_nn h_e36), m_e36, eq_true hc37, eq_true hc38, eq_true hc39, eq_true hc40, eq_true (ix_nn h_e41), m_e41, eq_true g_e41, eq_true hc42]; (repeat intro (_ : _ ≤ lim))
                refine SemF.cond rfl ?_
                simp only [gE, ↓gT, ↓reduceIte, reduceCtorEq, reduceAdd, reduceEqDiff, reduceLeDiff, reduceLT, eq_true hc33, eq_true hc34, eq_true (ix_nn h_e35), m_e35, eq_true (ix_nn h_e36), m_e36, eq_true hc37, eq_true hc38, eq_true hc39, eq_true hc40, eq_true (ix_nn h_e41), m_e41, eq_true g_e41, eq_true hc42]
                refine SemF.seq rfl ?_
                refine SemF.reg true rfl ?_
                try simp only [gE, ↓gT, ↓reduceIte, reduceCtorEq, reduceAdd, reduceEqDiff, reduceLeDiff, reduceLT, eq_true hc33, eq_true hc34, eq_true (ix_nn h_e35), m_e35, eq_true (ix_nn h_e36), m_e36, eq_true hc37, eq_true hc38, eq_true hc39, eq_true hc40, eq_true (ix_nn h_e41), m_e41, eq_true g_e41, eq_true hc42]; (repeat intro (_ : _ ≤ lim))
                refine SemF.ret rfl ?_
                try simp only [gE, ↓gT, ↓reduceIte, reduceCtorEq, reduceAdd, reduceEqDiff, reduceLeDiff, reduceLT, eq_true hc33, eq_true hc34, eq_true (ix_nn h_e35), m_e35, eq_true (ix_nn h_e36), m_e36, eq_true hc37, eq_true hc38, eq_true hc39, eq_true hc40, eq_true (ix_nn h_e41), m_e41, eq_true g_e41, eq_true hc42]; (repeat intro (_ : _ ≤ lim))
                obtain rfl := Option.some.inj h
                refine hr _ rfl _ _ ?_
                simp only [gE, ↓gT, ↓reduceIte, reduceCtorEq, reduceAdd, reduceEqDiff, reduceLeDiff, reduceLT, RetP_def, eq_true hc33, eq_true hc34, eq_true (ix_nn h_e35), m_e35, eq_true (ix_nn h_e36), m_e36, eq_true hc37, eq_true hc38, eq_true hc39, eq_true hc40, eq_true (ix_nn h_e41), m_e41, eq_true g_e41, eq_true hc42]
              · rw [if_neg hc42] at h
                try simp only [gE, ↓gT, ↓reduceIte, reduceCtorEq, reduceAdd, reduceEqDiff, reduceLeDiff, reduceLT, eq_true hc33, eq_true hc34, eq_true (ix_nn h_e35), m_e35, eq_true (ix_nn h_e36), m_e36, eq_true hc37, eq_true hc38, eq_true hc39, eq_true hc40, eq_true (ix_nn h_e41), m_e41, eq_true g_e41, eq_false hc42]; (repeat intro (_ : _ ≤ lim))
                by_cases hc43 : e35.Line = e41.Line
                · rw [if_pos hc43] at h
                  try simp only [gE, ↓gT, ↓reduceIte, reduceCtorEq, reduceAdd, reduceEqDiff, reduceLeDiff, reduceLT, eq_true hc33, eq_true hc34, eq_true (ix_nn h_e35), m_e35, eq_true (ix_nn h_e36), m_e36, eq_true hc37, eq_true hc38, eq_true hc39, eq_true hc40, eq_true (ix_nn h_e41), m_e41, eq_true g_e41, eq_false hc42, eq_true hc43]; (repeat intro (_ : _ ≤ lim))
                  by_cases hc44 : e35.Col < e41.Col
                  · rw [if_pos hc44] at h
                    refine SemF.cond rfl ?_
                    simp only [gE, ↓gT, ↓reduceIte, reduceCtorEq, reduceAdd, reduceEqDiff, reduceLeDiff, reduceLT, eq_true hc33, eq_true hc34, eq_true (ix_nn h_e35), m_e35, eq_true (ix_nn h_e36), m_e36, eq_true hc37, eq_true hc38, eq_true hc39, eq_true hc40, eq_true (ix_nn h_e41), m_e41, eq_true g_e41, eq_false hc42, eq_true hc43, eq_true hc44]
                    refine SemF.seq rfl ?_
                    refine SemF.reg true rfl ?_
                    try simp only [gE, ↓gT, ↓reduceIte, reduceCtorEq, reduceAdd, reduceEqDiff, reduceLeDiff, reduceLT, eq_true hc33, eq_true hc34, eq_true (ix_nn h_e35), m_e35, eq_true (ix_nn h_e36), m_e36, eq_true hc37, eq_true hc38, eq_true hc39, eq_true hc40, eq_true (ix_nn h_e41), m_e41, eq_true g_e41, eq_false hc42, eq_true hc43, eq_true hc44]; (repeat intro (_ : _ ≤ lim))
                    refine SemF.ret rfl ?_
                    try simp only [gE, ↓gT, ↓reduceIte, reduceCtorEq, reduceAdd, reduceEqDiff, reduceLeDiff, reduceLT, eq_true hc33, eq_true hc34, eq_true (ix_nn h_e35), m_e35, eq_true (ix_nn h_e36), m_e36, eq_true hc37, eq_true hc38, eq_true hc39, eq_true hc40, eq_true (ix_nn h_e41), m_e41, eq_true g_e41, eq_false hc42, eq_true hc43, eq_true hc44]; (repeat intro (_ : _ ≤ lim))
                    obtain rfl := Option.some.inj h
                    refine hr _ rfl _ _ ?_
                    simp only [gE, ↓gT, ↓reduceIte, reduceCtorEq, reduceAdd, reduceEqDiff, reduceLeDiff, reduceLT, RetP_def, eq_true hc33, eq_true hc34, eq_true (ix_nn h_e35), m_e35, eq_true (ix_nn h_e36), m_e36, eq_true hc37, eq_true hc38, eq_true hc39, eq_true hc40, eq_true (ix_nn h_e41), m_e41, eq_true g_e41, eq_false hc42, eq_true hc43, eq_true hc44]
                  · rw [if_neg hc44] at h
                    refine SemF.cond rfl ?_
                    simp only [gE, ↓gT, ↓reduceIte, reduceCtorEq, reduceAdd, reduceEqDiff, reduceLeDiff, reduceLT, eq_true hc33, eq_true hc34, eq_true (ix_nn h_e35), m_e35, eq_true (ix_nn h_e36), m_e36, eq_true hc37, eq_true hc38, eq_true hc39, eq_true hc40, eq_true (ix_nn h_e41), m_e41, eq_true g_e41, eq_false hc42, eq_true hc43, eq_false hc44]
                    refine SemF.skip rfl ?_
                    simp only [gE, ↓gT, ↓reduceIte, reduceCtorEq, reduceAdd, reduceEqDiff, reduceLeDiff, reduceLT, eq_true hc33, eq_true hc34, eq_true (ix_nn h_e35), m_e35, eq_true (ix_nn h_e36), m_e36, eq_true hc37, eq_true hc38, eq_true hc39, eq_true hc40, eq_true (ix_nn h_e41), m_e41, eq_true g_e41, eq_false hc42, eq_true hc43, eq_false hc44]
                    refine SemF.reg true rfl ?_
                    try simp only [gE, ↓gT, ↓reduceIte, reduceCtorEq, reduceAdd, reduceEqDiff, reduceLeDiff, reduceLT, eq_true hc33, eq_true hc34, eq_true (ix_nn h_e35), m_e35, eq_true (ix_nn h_e36), m_e36, eq_true hc37, eq_true hc38, eq_true hc39, eq_true hc40, eq_true (ix_nn h_e41), m_e41, eq_true g_e41, eq_false hc42, eq_true hc43, eq_false hc44]; (repeat intro (_ : _ ≤ lim))
                    refine SemL.weak (sel := [0, 1]) ⟨by simp only [gE, ↓gT, ↓reduceIte, reduceCtorEq, reduceAdd, reduceEqDiff, reduceLeDiff, reduceLT, hwT, selS, erT, eq_true hc33, eq_true hc34, eq_true (ix_nn h_e35), m_e35, eq_true (ix_nn h_e36), m_e36, eq_true hc37, eq_true hc38, eq_true hc39, eq_true hc40, eq_true (ix_nn h_e41), m_e41, eq_true g_e41, eq_false hc42, eq_true hc43, eq_false hc44], by decide, by decide, by simp only [gE, ↓gT, ↓reduceIte, reduceCtorEq, reduceAdd, reduceEqDiff, reduceLeDiff, reduceLT, hwT, selS, erT, subR, eq_true hc33, eq_true hc34, eq_true (ix_nn h_e35), m_e35, eq_true (ix_nn h_e36), m_e36, eq_true hc37, eq_true hc38, eq_true hc39, eq_true hc40, eq_true (ix_nn h_e41), m_e41, eq_true g_e41, eq_false hc42, eq_true hc43, eq_false hc44], by simp only [gE, ↓gT, ↓reduceIte, reduceCtorEq, reduceAdd, reduceEqDiff, reduceLeDiff, reduceLT, hwT, selS, erT, scT, esT, eq_true hc33, eq_true hc34, eq_true (ix_nn h_e35), m_e35, eq_true (ix_nn h_e36), m_e36, eq_true hc37, eq_true hc38, eq_true hc39, eq_true hc40, eq_true (ix_nn h_e41), m_e41, eq_true g_e41, eq_false hc42, eq_true hc43, eq_false hc44], by simp only [gE, ↓gT, ↓reduceIte, reduceCtorEq, reduceAdd, reduceEqDiff, reduceLeDiff, reduceLT, hwT, selS, erT, scT, esT, eq_true hc33, eq_true hc34, eq_true (ix_nn h_e35), m_e35, eq_true (ix_nn h_e36), m_e36, eq_true hc37, eq_true hc38, eq_true hc39, eq_true hc40, eq_true (ix_nn h_e41), m_e41, eq_true g_e41, eq_false hc42, eq_true hc43, eq_false hc44]⟩ (ih_laws_FnLex_L0 (r4, r19, (IntKind.i64.wrap (t13_L0 + 1))) out h Q hx hr)
                · rw [if_neg hc43] at h
                  try simp only [gE, ↓gT, ↓reduceIte, reduceCtorEq, reduceAdd, reduceEqDiff, reduceLeDiff, reduceLT, eq_true hc33, eq_true hc34, eq_true (ix_nn h_e35), m_e35, eq_true (ix_nn h_e36), m_e36, eq_true hc37, eq_true hc38, eq_true hc39, eq_true hc40, eq_true (ix_nn h_e41), m_e41, eq_true g_e41, eq_false hc42, eq_false hc43]; (repeat intro (_ : _ ≤ lim))
                  refine SemF.cond rfl ?_
                  simp only [gE, ↓gT, ↓reduceIte, reduceCtorEq, reduceAdd, reduceEqDiff, reduceLeDiff, reduceLT, eq_true hc33, eq_true hc34, eq_true (ix_nn h_e35), m_e35, eq_true (ix_nn h_e36), m_e36, eq_true hc37, eq_true hc38, eq_true hc39, eq_true hc40, eq_true (ix_nn h_e41), m_e41, eq_true g_e41, eq_false hc42, eq_false hc43]
                  refine SemF.skip rfl ?_
                  simp only [gE, ↓gT, ↓reduceIte, reduceCtorEq, reduceAdd, reduceEqDiff, reduceLeDiff, reduceLT, eq_true hc33, eq_true hc34, eq_true (ix_nn h_e35), m_e35, eq_true (ix_nn h_e36), m_e36, eq_true hc37, eq_true hc38, eq_true hc39, eq_true hc40, eq_true (ix_nn h_e41), m_e41, eq_true g_e41, eq_false hc42, eq_false hc43]
                  refine SemF.reg true rfl ?_
                  try simp only [gE, ↓gT, ↓reduceIte, reduceCtorEq, reduceAdd, reduceEqDiff, reduceLeDiff, reduceLT, eq_true hc33, eq_true hc34, eq_true (ix_nn h_e35), m_e35, eq_true (ix_nn h_e36), m_e36, eq_true hc37, eq_true hc38, eq_true hc39, eq_true hc40, eq_true (ix_nn h_e41), m_e41, eq_true g_e41, eq_false hc42, eq_false hc43]; (repeat intro (_ : _ ≤ lim))
                  refine SemL.weak (sel := [0, 1]) ⟨by simp only [gE, ↓gT, ↓reduceIte, reduceCtorEq, reduceAdd, reduceEqDiff, reduceLeDiff, reduceLT, hwT, selS, erT, eq_true hc33, eq_true hc34, eq_true (ix_nn h_e35), m_e35, eq_true (ix_nn h_e36), m_e36, eq_true hc37, eq_true hc38, eq_true hc39, eq_true hc40, eq_true (ix_nn h_e41), m_e41, eq_true g_e41, eq_false hc42, eq_false hc43], by decide, by decide, by simp only [gE, ↓gT, ↓reduceIte, reduceCtorEq, reduceAdd, reduceEqDiff, reduceLeDiff, reduceLT, hwT, selS, erT, subR, eq_true hc33, eq_true hc34, eq_true (ix_nn h_e35), m_e35, eq_true (ix_nn h_e36), m_e36, eq_true hc37, eq_true hc38, eq_true hc39, eq_true hc40, eq_true (ix_nn h_e41), m_e41, eq_true g_e41, eq_false hc42, eq_false hc43], by simp only [gE, ↓gT, ↓reduceIte, reduceCtorEq, reduceAdd, reduceEqDiff, reduceLeDiff, reduceLT, hwT, selS, erT, scT, esT, eq_true hc33, eq_true hc34, eq_true (ix_nn h_e35), m_e35, eq_true (ix_nn h_e36), m_e36, eq_true hc37, eq_true hc38, eq_true hc39, eq_true hc40, eq_true (ix_nn h_e41), m_e41, eq_true g_e41, eq_false hc42, eq_false hc43], by simp only [gE, ↓gT, ↓reduceIte, reduceCtorEq, reduceAdd, reduceEqDiff, reduceLeDiff, reduceLT, hwT, selS, erT, scT, esT, eq_true hc33, eq_true hc34, eq_true (ix_nn h_e35), m_e35, eq_true (ix_nn h_e36), m_e36, eq_true hc37, eq_true hc38, eq_true hc39, eq_true hc40, eq_true (ix_nn h_e41), m_e41, eq_true g_e41, eq_false hc42, eq_false hc43]⟩ (ih_laws_FnLex_L0 (r4, r19, (IntKind.i64.wrap (t13_L0 + 1))) out h Q hx hr)
            · rw [if_neg hc40] at h
              try simp only [gE, ↓gT, ↓reduceIte, reduceCtorEq, reduceAdd, reduceEqDiff, reduceLeDiff, reduceLT, eq_true hc33, eq_true hc34, eq_true (ix_nn h_e35), m_e35, eq_true (ix_nn h_e36), m_e36, eq_true hc37, eq_true hc38, eq_true hc39, eq_false hc40]; (repeat intro (_ : _ ≤ lim))
              refine SemF.cond rfl ?_
              simp only [gE, ↓gT, ↓reduceIte, reduceCtorEq, reduceAdd, reduceEqDiff, reduceLeDiff, reduceLT, eq_true hc33, eq_true hc34, eq_true (ix_nn h_e35), m_e35, eq_true (ix_nn h_e36), m_e36, eq_true hc37, eq_true hc38, eq_true hc39, eq_false hc40]
              refine SemF.skip rfl ?_
              simp only [gE, ↓gT, ↓reduceIte, reduceCtorEq, reduceAdd, reduceEqDiff, reduceLeDiff, reduceLT, eq_true hc33, eq_true hc34, eq_true (ix_nn h_e35), m_e35, eq_true (ix_nn h_e36), m_e36, eq_true hc37, eq_true hc38, eq_true hc39, eq_false hc40]
              refine SemF.reg true rfl ?_
              try simp only [gE, ↓gT, ↓reduceIte, reduceCtorEq, reduceAdd, reduceEqDiff, reduceLeDiff, reduceLT, eq_true hc33, eq_true hc34, eq_true (ix_nn h_e35), m_e35, eq_true (ix_nn h_e36), m_e36, eq_true hc37, eq_true hc38, eq_true hc39, eq_false hc40]; (repeat intro (_ : _ ≤ lim))
              refine SemL.weak (sel := [0, 1]) ⟨by simp only [gE, ↓gT, ↓reduceIte, reduceCtorEq, reduceAdd, reduceEqDiff, reduceLeDiff, reduceLT, hwT, selS, erT, eq_true hc33, eq_true hc34, eq_true (ix_nn h_e35), m_e35, eq_true (ix_nn h_e36), m_e36, eq_true hc37, eq_true hc38, eq_true hc39, eq_false hc40], by decide, by decide, by simp only [gE, ↓gT, ↓reduceIte, reduceCtorEq, reduceAdd, reduceEqDiff, reduceLeDiff, reduceLT, hwT, selS, erT, subR, eq_true hc33, eq_true hc34, eq_true (ix_nn h_e35), m_e35, eq_true (ix_nn h_e36), m_e36, eq_true hc37, eq_true hc38, eq_true hc39, eq_false hc40], by simp only [gE, ↓gT, ↓reduceIte, reduceCtorEq, reduceAdd, reduceEqDiff, reduceLeDiff, reduceLT, hwT, selS, erT, scT, esT, eq_true hc33, eq_true hc34, eq_true (ix_nn h_e35), m_e35, eq_true (ix_nn h_e36), m_e36, eq_true hc37, eq_true hc38, eq_true hc39, eq_false hc40], by simp only [gE, ↓gT, ↓reduceIte, reduceCtorEq, reduceAdd, reduceEqDiff, reduceLeDiff, reduceLT, hwT, selS, erT, scT, esT, eq_true hc33, eq_true hc34, eq_true (ix_nn h_e35), m_e35, eq_true (ix_nn h_e36), m_e36, eq_true hc37, eq_true hc38, eq_true hc39, eq_false hc40]⟩ (ih_laws_FnLex_L0 (r4, r19, (IntKind.i64.wrap (t13_L0 + 1))) out h Q hx hr)
          · rw [if_neg hc39] at h
            try simp only [gE, ↓gT, ↓reduceIte, reduceCtorEq, reduceAdd, reduceEqDiff, reduceLeDiff, reduceLT, eq_true hc33, eq_true hc34, eq_true (ix_nn h_e35), m_e35, eq_true (ix_nn h_e36), m_e36, eq_true hc37, eq_true hc38, eq_false hc39]; (repeat intro (_ : _ ≤ lim))
            refine SemF.cond rfl ?_
            simp only [gE, ↓gT, ↓reduceIte, reduceCtorEq, reduceAdd, reduceEqDiff, reduceLeDiff, reduceLT, eq_true hc33, eq_true hc34, eq_true (ix_nn h_e35), m_e35, eq_true (ix_nn h_e36), m_e36, eq_true hc37, eq_true hc38, eq_false hc39]
            refine SemF.seq rfl ?_
            refine SemF.reg true rfl ?_
            try simp only [gE, ↓gT, ↓reduceIte, reduceCtorEq, reduceAdd, reduceEqDiff, reduceLeDiff, reduceLT, eq_true hc33, eq_true hc34, eq_true (ix_nn h_e35), m_e35, eq_true (ix_nn h_e36), m_e36, eq_true hc37, eq_true hc38, eq_false hc39]; (repeat intro (_ : _ ≤ lim))
            refine SemF.ret rfl ?_
            try simp only [gE, ↓gT, ↓reduceIte, reduceCtorEq, reduceAdd, reduceEqDiff, reduceLeDiff, reduceLT, eq_true hc33, eq_true hc34, eq_true (ix_nn h_e35), m_e35, eq_true (ix_nn h_e36), m_e36, eq_true hc37, eq_true hc38, eq_false hc39]; (repeat intro (_ : _ ≤ lim))
            obtain rfl := Option.some.inj h
            refine hr _ rfl _ _ ?_
            simp only [gE, ↓gT, ↓reduceIte, reduceCtorEq, reduceAdd, reduceEqDiff, reduceLeDiff, reduceLT, RetP_def, eq_true hc33, eq_true hc34, eq_true (ix_nn h_e35), m_e35, eq_true (ix_nn h_e36), m_e36, eq_true hc37, eq_true hc38, eq_false hc39]
        · rw [if_neg hc38] at h
          try simp only [gE, ↓gT, ↓reduceIte, reduceCtorEq, reduceAdd, reduceEqDiff, reduceLeDiff, reduceLT, eq_true hc33, eq_true hc34, eq_true (ix_nn h_e35), m_e35, eq_true (ix_nn h_e36), m_e36, eq_true hc37, eq_false hc38]; (repeat intro (_ : _ ≤ lim))
          refine SemF.cond rfl ?_
          simp only [gE, ↓gT, ↓reduceIte, reduceCtorEq, reduceAdd, reduceEqDiff, reduceLeDiff, reduceLT, eq_true hc33, eq_true hc34, eq_true (ix_nn h_e35), m_e35, eq_true (ix_nn h_e36), m_e36, eq_true hc37, eq_false hc38]
          refine SemF.seq rfl ?_
          refine SemF.reg true rfl ?_
          try simp only [gE, ↓gT, ↓reduceIte, reduceCtorEq, reduceAdd, reduceEqDiff, reduceLeDiff, reduceLT, eq_true hc33, eq_true hc34, eq_true (ix_nn h_e35), m_e35, eq_true (ix_nn h_e36), m_e36, eq_true hc37, eq_false hc38]; (repeat intro (_ : _ ≤ lim))
          refine SemF.ret rfl ?_
          try simp only [gE, ↓gT, ↓reduceIte, reduceCtorEq, reduceAdd, reduceEqDiff, reduceLeDiff, reduceLT, eq_true hc33, eq_true hc34, eq_true (ix_nn h_e35), m_e35, eq_true (ix_nn h_e36), m_e36, eq_true hc37, eq_false hc38]; (repeat intro (_ : _ ≤ lim))
          obtain rfl := Option.some.inj h
          refine hr _ rfl _ _ ?_
          simp only [gE, ↓gT, ↓reduceIte, reduceCtorEq, reduceAdd, reduceEqDiff, reduceLeDiff, reduceLT, RetP_def, eq_true hc33, eq_true hc34, eq_true (ix_nn h_e35), m_e35, eq_true (ix_nn h_e36), m_e36, eq_true hc37, eq_false hc38]
      · rw [if_neg hc37] at h
        try simp only [gE, ↓gT, ↓reduceIte, reduceCtorEq, reduceAdd, reduceEqDiff, reduceLeDiff, reduceLT, eq_true hc33, eq_true hc34, eq_true (ix_nn h_e35), m_e35, eq_true (ix_nn h_e36), m_e36, eq_false hc37]; (repeat intro (_ : _ ≤ lim))
        refine SemF.cond rfl ?_
        simp only [gE, ↓gT, ↓reduceIte, reduceCtorEq, reduceAdd, reduceEqDiff, reduceLeDiff, reduceLT, eq_true hc33, eq_true hc34, eq_true (ix_nn h_e35), m_e35, eq_true (ix_nn h_e36), m_e36, eq_false hc37]
        refine SemF.seq rfl ?_
        refine SemF.reg true rfl ?_
        try simp only [gE, ↓gT, ↓reduceIte, reduceCtorEq, reduceAdd, reduceEqDiff, reduceLeDiff, reduceLT, eq_true hc33, eq_true hc34, eq_true (ix_nn h_e35), m_e35, eq_true (ix_nn h_e36), m_e36, eq_false hc37]; (repeat intro (_ : _ ≤ lim))
        refine SemF.ret rfl ?_
        try simp only [gE, ↓gT, ↓reduceIte, reduceCtorEq, reduceAdd, reduceEqDiff, reduceLeDiff, reduceLT, eq_true hc33, eq_true hc34, eq_true (ix_nn h_e35), m_e35, eq_true (ix_nn h_e36), m_e36, eq_false hc37]; (repeat intro (_ : _ ≤ lim))
        obtain rfl := Option.some.inj h
        refine hr _ rfl _ _ ?_
        simp only [gE, ↓gT, ↓reduceIte, reduceCtorEq, reduceAdd, reduceEqDiff, reduceLeDiff, reduceLT, RetP_def, eq_true hc33, eq_true hc34, eq_true (ix_nn h_e35), m_e35, eq_true (ix_nn h_e36), m_e36, eq_false hc37]
    · rw [if_neg hc34] at h
      refine SemF.cond rfl ?_
      simp only [gE, ↓gT, ↓reduceIte, reduceCtorEq, reduceAdd, reduceEqDiff, reduceLeDiff, reduceLT, eq_true hc33, eq_false hc34]
      refine SemF.exit rfl ?_
      simp only [gE, ↓gT, ↓reduceIte, reduceCtorEq, reduceAdd, reduceEqDiff, reduceLeDiff, reduceLT, eq_true hc33, eq_false hc34]
      obtain rfl := Option.some.inj h
      refine hx _ rfl _ _ [0, 1] ⟨by simp only [gE, ↓gT, ↓reduceIte, reduceCtorEq, reduceAdd, reduceEqDiff, reduceLeDiff, reduceLT, hwT, selS, erT, eq_true hc33, eq_false hc34], by decide, by decide, by simp only [gE, ↓gT, ↓reduceIte, reduceCtorEq, reduceAdd, reduceEqDiff, reduceLeDiff, reduceLT, hwT, selS, erT, subR, eq_true hc33, eq_false hc34], by simp only [gE, ↓gT, ↓reduceIte, reduceCtorEq, reduceAdd, reduceEqDiff, reduceLeDiff, reduceLT, hwT, selS, erT, scT, esT, eq_true hc33, eq_false hc34], by simp only [gE, ↓gT, ↓reduceIte, reduceCtorEq, reduceAdd, reduceEqDiff, reduceLeDiff, reduceLT, hwT, selS, erT, scT, esT, eq_true hc33, eq_false hc34]⟩
  · rw [if_neg hc33] at h
    try simp only [gE, ↓gT, ↓reduceIte, reduceCtorEq, reduceAdd, reduceEqDiff, reduceLeDiff, reduceLT, eq_false hc33]; (repeat intro (_ : _ ≤ lim))
    refine SemF.cond rfl ?_
    simp only [gE, ↓gT, ↓reduceIte, reduceCtorEq, reduceAdd, reduceEqDiff, reduceLeDiff, reduceLT, eq_false hc33]
    refine SemF.exit rfl ?_
    simp only [gE, ↓gT, ↓reduceIte, reduceCtorEq, reduceAdd, reduceEqDiff, reduceLeDiff, reduceLT, eq_false hc33]
    obtain rfl := Option.some.inj h
    refine hx _ rfl _ _ [0, 1] ⟨by simp only [gE, ↓gT, ↓reduceIte, reduceCtorEq, reduceAdd, reduceEqDiff, reduceLeDiff, reduceLT, hwT, selS, erT, eq_false hc33], by decide, by decide, by simp only [gE, ↓gT, ↓reduceIte, reduceCtorEq, reduceAdd, reduceEqDiff, reduceLeDiff, reduceLT, hwT, selS, erT, subR, eq_false hc33], by simp only [gE, ↓gT, ↓reduceIte, reduceCtorEq, reduceAdd, reduceEqDiff, reduceLeDiff, reduceLT, hwT, selS, erT, scT, esT, eq_false hc33], by simp only [gE, ↓gT, ↓reduceIte, reduceCtorEq, reduceAdd, reduceEqDiff, reduceLeDiff, reduceLT, hwT, selS, erT, scT, esT, eq_false hc33]⟩
end K
end W
