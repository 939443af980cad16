import Derived.Test.YtnhdobhfebiggaaDoorTPrf2
namespace W
set_option linter.unusedSimpArgs false
set_option linter.unusedVariables false
open Go HL S
open Nat (reduceAdd reduceEqDiff reduceLeDiff reduceSub reduceMul reduceLT)
set_option linter.unusedVariables false
set_option maxRecDepth 100000
set_option maxHeartbeats 4000000
namespace K
theorem spec_l9Text_step (f_spec_l9Text : (Ty × Int) → Option (ByteArray × Bool)) (ih_spec_l9Text : ∀ (x : (Ty × Int)) (r : (ByteArray × Bool)), f_spec_l9Text x = some r → HCp P F.spec_l9Text [(Ty.enc x.1), (.int .i64 x.2)] (HV.tup [(HV.str r.1), (HV.bool r.2)])) (x : (Ty × Int)) (r : (ByteArray × Bool)) (h : (if 12 < x.2 then some ((⟨⟨[]⟩⟩ : ByteArray), false) else
    (if x.1.K = 1 then some ((⟨⟨[73, 110, 116]⟩⟩ : ByteArray), true) else
    (if x.1.K = 2 then some ((⟨⟨[66, 111, 111, 108]⟩⟩ : ByteArray), true) else
    (if x.1.K = 3 then some (x.1.S, true) else
    (if x.1.K = 5 then (if 0 ≤ x.1.N then (M.spec_l5Num x.1.N >>= fun r7 =>
    (gd ((⟨⟨[116]⟩⟩ : ByteArray).size + r7.size ≤ lim) >>= fun u9 =>
    some (((⟨⟨[116]⟩⟩ : ByteArray) ++ r7), true))) else
    (if x.1.K = 4 then (if ((x.1.L.length : Nat) : Int) = 2 then (ix x.1.L 0 >>= fun e12 =>
    (f_spec_l9Text (e12, (IntKind.i64.wrap (x.2 + 1))) >>= fun r13 =>
    (ix x.1.L 1 >>= fun e14 =>
    (f_spec_l9Text (e14, (IntKind.i64.wrap (x.2 + 1))) >>= fun r15 =>
    (if e12.K = 4 then (gd ((⟨⟨[40]⟩⟩ : ByteArray).size + r13.1.size ≤ lim) >>= fun u18 =>
    (gd (((⟨⟨[40]⟩⟩ : ByteArray) ++ r13.1).size + (⟨⟨[41]⟩⟩ : ByteArray).size ≤ lim) >>= fun u20 =>
    (gd ((((⟨⟨[40]⟩⟩ : ByteArray) ++ r13.1) ++ (⟨⟨[41]⟩⟩ : ByteArray)).size + (⟨⟨[32, 45, 62, 32]⟩⟩ : ByteArray).size ≤ lim) >>= fun u22 =>
    (gd (((((⟨⟨[40]⟩⟩ : ByteArray) ++ r13.1) ++ (⟨⟨[41]⟩⟩ : ByteArray)) ++ (⟨⟨[32, 45, 62, 32]⟩⟩ : ByteArray)).size + r15.1.size ≤ lim) >>= fun u24 =>
    (if r13.2 = true then some ((((((⟨⟨[40]⟩⟩ : ByteArray) ++ r13.1) ++ (⟨⟨[41]⟩⟩ : ByteArray)) ++ (⟨⟨[32, 45, 62, 32]⟩⟩ : ByteArray)) ++ r15.1), r15.2) else
    some ((((((⟨⟨[40]⟩⟩ : ByteArray) ++ r13.1) ++ (⟨⟨[41]⟩⟩ : ByteArray)) ++ (⟨⟨[32, 45, 62, 32]⟩⟩ : ByteArray)) ++ r15.1), false)))))) else
    (gd (r13.1.size + (⟨⟨[32, 45, 62, 32]⟩⟩ : ByteArray).size ≤ lim) >>= fun u27 =>
    (gd ((r13.1 ++ (⟨⟨[32, 45, 62, 32]⟩⟩ : ByteArray)).size + r15.1.size ≤ lim) >>= fun u29 =>
    (if r13.2 = true then some (((r13.1 ++ (⟨⟨[32, 45, 62, 32]⟩⟩ : ByteArray)) ++ r15.1), r15.2) else
    some (((r13.1 ++ (⟨⟨[32, 45, 62, 32]⟩⟩ : ByteArray)) ++ r15.1), false))))))))) else
    some ((⟨⟨[]⟩⟩ : ByteArray), false)) else
    some ((⟨⟨[]⟩⟩ : ByteArray), false))) else
    (if x.1.K = 4 then (if ((x.1.L.length : Nat) : Int) = 2 then (ix x.1.L 0 >>= fun e33 =>
    (f_spec_l9Text (e33, (IntKind.i64.wrap (x.2 + 1))) >>= fun r34 =>
    (ix x.1.L 1 >>= fun e35 =>
    (f_spec_l9Text (e35, (IntKind.i64.wrap (x.2 + 1))) >>= fun r36 =>
    (if e33.K = 4 then (gd ((⟨⟨[40]⟩⟩ : ByteArray).size + r34.1.size ≤ lim) >>= fun u39 =>
    (gd (((⟨⟨[40]⟩⟩ : ByteArray) ++ r34.1).size + (⟨⟨[41]⟩⟩ : ByteArray).size ≤ lim) >>= fun u41 =>
    (gd ((((⟨⟨[40]⟩⟩ : ByteArray) ++ r34.1) ++ (⟨⟨[41]⟩⟩ : ByteArray)).size + (⟨⟨[32, 45, 62, 32]⟩⟩ : ByteArray).size ≤ lim) >>= fun u43 =>
    (gd (((((⟨⟨[40]⟩⟩ : ByteArray) ++ r34.1) ++ (⟨⟨[41]⟩⟩ : ByteArray)) ++ (⟨⟨[32, 45, 62, 32]⟩⟩ : ByteArray)).size + r36.1.size ≤ lim) >>= fun u45 =>
    (if r34.2 = true then some ((((((⟨⟨[40]⟩⟩ : ByteArray) ++ r34.1) ++ (⟨⟨[41]⟩⟩ : ByteArray)) ++ (⟨⟨[32, 45, 62, 32]⟩⟩ : ByteArray)) ++ r36.1), r36.2) else
    some ((((((⟨⟨[40]⟩⟩ : ByteArray) ++ r34.1) ++ (⟨⟨[41]⟩⟩ : ByteArray)) ++ (⟨⟨[32, 45, 62, 32]⟩⟩ : ByteArray)) ++ r36.1), false)))))) else
    (gd (r34.1.size + (⟨⟨[32, 45, 62, 32]⟩⟩ : ByteArray).size ≤ lim) >>= fun u48 =>
    (gd ((r34.1 ++ (⟨⟨[32, 45, 62, 32]⟩⟩ : ByteArray)).size + r36.1.size ≤ lim) >>= fun u50 =>
    (if r34.2 = true then some (((r34.1 ++ (⟨⟨[32, 45, 62, 32]⟩⟩ : ByteArray)) ++ r36.1), r36.2) else
    some (((r34.1 ++ (⟨⟨[32, 45, 62, 32]⟩⟩ : ByteArray)) ++ r36.1), false))))))))) else
    some ((⟨⟨[]⟩⟩ : ByteArray), false)) else
    some ((⟨⟨[]⟩⟩ : ByteArray), false))))))) = some r) : HCp P F.spec_l9Text [(Ty.enc x.1), (.int .i64 x.2)] (HV.tup [(HV.str r.1), (HV.bool r.2)]) := by
  obtain ⟨p0, p1⟩ := x
  try dsimp only at h
  refine HCp.mkF S.spec_l9Text (by simp [H.spec_l9Text]) (by simp only [scT, esT, and_self, true_and, and_true]) ?_
  simp only [gE, ↓gT, ↓reduceIte, reduceCtorEq, reduceAdd, reduceEqDiff, reduceLeDiff, reduceLT, H.spec_l9Text]
  refine SemF.seq rfl ?_
  refine SemF.reg true rfl ?_
  try simp only [gE, ↓gT, ↓reduceIte, reduceCtorEq, reduceAdd, reduceEqDiff, reduceLeDiff, reduceLT]; (repeat intro (_ : _ ≤ lim))
  refine SemF.seq rfl ?_
  refine SemF.block rfl ?_
  refine SemF.seq rfl ?_
  refine SemF.reg true rfl ?_
  try simp only [gE, ↓gT, ↓reduceIte, reduceCtorEq, reduceAdd, reduceEqDiff, reduceLeDiff, reduceLT]; (repeat intro (_ : _ ≤ lim))
  by_cases hc1 : 12 < p1
  · rw [if_pos hc1] at h
    refine SemF.cond rfl ?_
    simp only [gE, ↓gT, ↓reduceIte, reduceCtorEq, reduceAdd, reduceEqDiff, reduceLeDiff, reduceLT, eq_true hc1]
    refine SemF.seq rfl ?_
    refine SemF.reg true rfl ?_
    try simp only [gE, ↓gT, ↓reduceIte, reduceCtorEq, reduceAdd, reduceEqDiff, reduceLeDiff, reduceLT, eq_true hc1]; (repeat intro (_ : _ ≤ lim))
    refine SemF.ret rfl ?_
    try simp only [gE, ↓gT, ↓reduceIte, reduceCtorEq, reduceAdd, reduceEqDiff, reduceLeDiff, reduceLT, eq_true hc1]; (repeat intro (_ : _ ≤ lim))
    obtain rfl := Option.some.inj h
    simp only [gE, ↓gT, ↓reduceIte, reduceCtorEq, reduceAdd, reduceEqDiff, reduceLeDiff, reduceLT, RetP_def, eq_true hc1]
  · rw [if_neg hc1] at h
    refine SemF.cond rfl ?_
    simp only [gE, ↓gT, ↓reduceIte, reduceCtorEq, reduceAdd, reduceEqDiff, reduceLeDiff, reduceLT, eq_false hc1]
    refine SemF.seq rfl ?_
    refine SemF.reg true rfl ?_
    try simp only [gE, ↓gT, ↓reduceIte, reduceCtorEq, reduceAdd, reduceEqDiff, reduceLeDiff, reduceLT, eq_false hc1]; (repeat intro (_ : _ ≤ lim))
    by_cases hc2 : p0.K = 1
    · rw [if_pos hc2] at h
      refine SemF.cond rfl ?_
      simp only [gE, ↓gT, ↓reduceIte, reduceCtorEq, reduceAdd, reduceEqDiff, reduceLeDiff, reduceLT, eq_false hc1, eq_true hc2]
      refine SemF.seq rfl ?_
      refine SemF.reg true rfl ?_
      try simp only [gE, ↓gT, ↓reduceIte, reduceCtorEq, reduceAdd, reduceEqDiff, reduceLeDiff, reduceLT, eq_false hc1, eq_true hc2]; (repeat intro (_ : _ ≤ lim))
      refine SemF.ret rfl ?_
      try simp only [gE, ↓gT, ↓reduceIte, reduceCtorEq, reduceAdd, reduceEqDiff, reduceLeDiff, reduceLT, eq_false hc1, eq_true hc2]; (repeat intro (_ : _ ≤ lim))
      obtain rfl := Option.some.inj h
      simp only [gE, ↓gT, ↓reduceIte, reduceCtorEq, reduceAdd, reduceEqDiff, reduceLeDiff, reduceLT, RetP_def, eq_false hc1, eq_true hc2]
    · rw [if_neg hc2] at h
      refine SemF.cond rfl ?_
      simp only [gE, ↓gT, ↓reduceIte, reduceCtorEq, reduceAdd, reduceEqDiff, reduceLeDiff, reduceLT, eq_false hc1, eq_false hc2]
      refine SemF.seq rfl ?_
      refine SemF.reg true rfl ?_
      try simp only [gE, ↓gT, ↓reduceIte, reduceCtorEq, reduceAdd, reduceEqDiff, reduceLeDiff, reduceLT, eq_false hc1, eq_false hc2]; (repeat intro (_ : _ ≤ lim))
      by_cases hc3 : p0.K = 2
      · rw [if_pos hc3] at h
        refine SemF.cond rfl ?_
        simp only [gE, ↓gT, ↓reduceIte, reduceCtorEq, reduceAdd, reduceEqDiff, reduceLeDiff, reduceLT, eq_false hc1, eq_false hc2, eq_true hc3]
        refine SemF.seq rfl ?_
        refine SemF.reg true rfl ?_
        try simp only [gE, ↓gT, ↓reduceIte, reduceCtorEq, reduceAdd, reduceEqDiff, reduceLeDiff, reduceLT, eq_false hc1, eq_false hc2, eq_true hc3]; (repeat intro (_ : _ ≤ lim))
        refine SemF.ret rfl ?_
        try simp only [gE, ↓gT, ↓reduceIte, reduceCtorEq, reduceAdd, reduceEqDiff, reduceLeDiff, reduceLT, eq_false hc1, eq_false hc2, eq_true hc3]; (repeat intro (_ : _ ≤ lim))
        obtain rfl := Option.some.inj h
        simp only [gE, ↓gT, ↓reduceIte, reduceCtorEq, reduceAdd, reduceEqDiff, reduceLeDiff, reduceLT, RetP_def, eq_false hc1, eq_false hc2, eq_true hc3]
      · rw [if_neg hc3] at h
        refine SemF.cond rfl ?_
        simp only [gE, ↓gT, ↓reduceIte, reduceCtorEq, reduceAdd, reduceEqDiff, reduceLeDiff, reduceLT, eq_false hc1, eq_false hc2, eq_false hc3]
        refine SemF.seq rfl ?_
        refine SemF.reg true rfl ?_
        try simp only [gE, ↓gT, ↓reduceIte, reduceCtorEq, reduceAdd, reduceEqDiff, reduceLeDiff, reduceLT, eq_false hc1, eq_false hc2, eq_false hc3]; (repeat intro (_ : _ ≤ lim))
        by_cases hc4 : p0.K = 3
        · rw [if_pos hc4] at h
          refine SemF.cond rfl ?_
          simp only [gE, ↓gT, ↓reduceIte, reduceCtorEq, reduceAdd, reduceEqDiff, reduceLeDiff, reduceLT, eq_false hc1, eq_false hc2, eq_false hc3, eq_true hc4]
          refine SemF.seq rfl ?_
          refine SemF.reg true rfl ?_
          try simp only [gE, ↓gT, ↓reduceIte, reduceCtorEq, reduceAdd, reduceEqDiff, reduceLeDiff, reduceLT, eq_false hc1, eq_false hc2, eq_false hc3, eq_true hc4]; (repeat intro (_ : _ ≤ lim))
          refine SemF.ret rfl ?_
          try simp only [gE, ↓gT, ↓reduceIte, reduceCtorEq, reduceAdd, reduceEqDiff, reduceLeDiff, reduceLT, eq_false hc1, eq_false hc2, eq_false hc3, eq_true hc4]; (repeat intro (_ : _ ≤ lim))
          obtain rfl := Option.some.inj h
          simp only [gE, ↓gT, ↓reduceIte, reduceCtorEq, reduceAdd, reduceEqDiff, reduceLeDiff, reduceLT, RetP_def, eq_false hc1, eq_false hc2, eq_false hc3, eq_true hc4]
        · rw [if_neg hc4] at h
          refine SemF.cond rfl ?_
          simp only [gE, ↓gT, ↓reduceIte, reduceCtorEq, reduceAdd, reduceEqDiff, reduceLeDiff, reduceLT, eq_false hc1, eq_false hc2, eq_false hc3, eq_false hc4]
          refine SemF.seq rfl ?_
          refine SemF.reg true rfl ?_
          try simp only [gE, ↓gT, ↓reduceIte, reduceCtorEq, reduceAdd, reduceEqDiff, reduceLeDiff, reduceLT, eq_false hc1, eq_false hc2, eq_false hc3, eq_false hc4]; (repeat intro (_ : _ ≤ lim))
          by_cases hc5 : p0.K = 5
          · rw [if_pos hc5] at h
            try simp only [gE, ↓gT, ↓reduceIte, reduceCtorEq, reduceAdd, reduceEqDiff, reduceLeDiff, reduceLT, eq_false hc1, eq_false hc2, eq_false hc3, eq_false hc4, eq_true hc5]; (repeat intro (_ : _ ≤ lim))
            by_cases hc6 : 0 ≤ p0.N
            · rw [if_pos hc6] at h
              refine SemF.cond rfl ?_
              simp only [gE, ↓gT, ↓reduceIte, reduceCtorEq, reduceAdd, reduceEqDiff, reduceLeDiff, reduceLT, eq_false hc1, eq_false hc2, eq_false hc3, eq_false hc4, eq_true hc5, eq_true hc6]
              refine SemF.seq rfl ?_
              refine SemF.reg true rfl ?_
              try simp only [gE, ↓gT, ↓reduceIte, reduceCtorEq, reduceAdd, reduceEqDiff, reduceLeDiff, reduceLT, eq_false hc1, eq_false hc2, eq_false hc3, eq_false hc4, eq_true hc5, eq_true hc6]; (repeat intro (_ : _ ≤ lim))
              obtain ⟨r7, h_r7, h⟩ := bs h
              refine HCp.callE (K.spec_l5Num p0.N r7 h_r7) (by simp only [gE, ↓gT, ↓reduceIte, reduceCtorEq, reduceAdd, reduceEqDiff, reduceLeDiff, reduceLT, eq_false hc1, eq_false hc2, eq_false hc3, eq_false hc4, eq_true hc5, eq_true hc6]) (by simp only [scT, esT, and_self, true_and, and_true]) (by simp only [scT, esT, and_self, true_and, and_true]) ?_
              try simp only [gE, ↓gT, ↓reduceIte, reduceCtorEq, reduceAdd, reduceEqDiff, reduceLeDiff, reduceLT, eq_false hc1, eq_false hc2, eq_false hc3, eq_false hc4, eq_true hc5, eq_true hc6]; (repeat intro (_ : _ ≤ lim))
              obtain ⟨u9, h_u9, h⟩ := bs h
              have hg8 := gd_some h_u9
              try simp only [gE, ↓gT, ↓reduceIte, reduceCtorEq, reduceAdd, reduceEqDiff, reduceLeDiff, reduceLT, eq_false hc1, eq_false hc2, eq_false hc3, eq_false hc4, eq_true hc5, eq_true hc6, eq_true hg8]; (repeat intro (_ : _ ≤ lim))
              refine SemF.ret rfl ?_
              try simp only [gE, ↓gT, ↓reduceIte, reduceCtorEq, reduceAdd, reduceEqDiff, reduceLeDiff, reduceLT, eq_false hc1, eq_false hc2, eq_false hc3, eq_false hc4, eq_true hc5, eq_true hc6, eq_true hg8]; (repeat intro (_ : _ ≤ lim))
              obtain rfl := Option.some.inj h
              simp only [gE, ↓gT, ↓reduceIte, reduceCtorEq, reduceAdd, reduceEqDiff, reduceLeDiff, reduceLT, RetP_def, eq_false hc1, eq_false hc2, eq_false hc3, eq_false hc4, eq_true hc5, eq_true hc6, eq_true hg8]
            · rw [if_neg hc6] at h
              refine SemF.cond rfl ?_
              simp only [gE, ↓gT, ↓reduceIte, reduceCtorEq, reduceAdd, reduceEqDiff, reduceLeDiff, reduceLT, eq_false hc1, eq_false hc2, eq_false hc3, eq_false hc4, eq_true hc5, eq_false hc6]
              refine SemF.seq rfl ?_
              refine SemF.reg true rfl ?_
              try simp only [gE, ↓gT, ↓reduceIte, reduceCtorEq, reduceAdd, reduceEqDiff, reduceLeDiff, reduceLT, eq_false hc1, eq_false hc2, eq_false hc3, eq_false hc4, eq_true hc5, eq_false hc6]; (repeat intro (_ : _ ≤ lim))
              by_cases hc10 : p0.K = 4
              · rw [if_pos hc10] at h
                try simp only [gE, ↓gT, ↓reduceIte, reduceCtorEq, reduceAdd, reduceEqDiff, reduceLeDiff, reduceLT, eq_false hc1, eq_false hc2, eq_false hc3, eq_false hc4, eq_true hc5, eq_false hc6, eq_true hc10]; (repeat intro (_ : _ ≤ lim))
                (repeat intro (_ : _ ≤ lim))
                by_cases hc11 : ((p0.L.length : Nat) : Int) = 2
                · rw [if_pos hc11] at h
                  refine SemF.cond rfl ?_
                  simp only [gE, ↓gT, ↓reduceIte, reduceCtorEq, reduceAdd, reduceEqDiff, reduceLeDiff, reduceLT, eq_false hc1, eq_false hc2, eq_false hc3, eq_false hc4, eq_true hc5, eq_false hc6, eq_true hc10, eq_true hc11]
                  refine SemF.seq rfl ?_
                  refine SemF.reg true rfl ?_
                  try simp only [gE, ↓gT, ↓reduceIte, reduceCtorEq, reduceAdd, reduceEqDiff, reduceLeDiff, reduceLT, eq_false hc1, eq_false hc2, eq_false hc3, eq_false hc4, eq_true hc5, eq_false hc6, eq_true hc10, eq_true hc11]; (repeat intro (_ : _ ≤ lim))
                  obtain ⟨e12, h_e12, h⟩ := bs h
                  have m_e12 := ixm (f := Ty.enc) (ix_get h_e12)
                  try simp only [gE, ↓gT, ↓reduceIte, reduceCtorEq, reduceAdd, reduceEqDiff, reduceLeDiff, reduceLT, eq_false hc1, eq_false hc2, eq_false hc3, eq_false hc4, eq_true hc5, eq_false hc6, eq_true hc10, eq_true hc11, eq_true (ix_nn h_e12), m_e12]; (repeat intro (_ : _ ≤ lim))
                  obtain ⟨r13, h_r13, h⟩ := bs h
                  refine HCp.callE (ih_spec_l9Text (e12, (IntKind.i64.wrap (p1 + 1))) r13 h_r13) (by simp only [gE, ↓gT, ↓reduceIte, reduceCtorEq, reduceAdd, reduceEqDiff, reduceLeDiff, reduceLT, eq_false hc1, eq_false hc2, eq_false hc3, eq_false hc4, eq_true hc5, eq_false hc6, eq_true hc10, eq_true hc11, eq_true (ix_nn h_e12), m_e12]) (by simp only [scT, esT, and_self, true_and, and_true]) (by simp only [scT, esT, and_self, true_and, and_true]) ?_
                  try simp only [gE, ↓gT, ↓reduceIte, reduceCtorEq, reduceAdd, reduceEqDiff, reduceLeDiff, reduceLT, eq_false hc1, eq_false hc2, eq_false hc3, eq_false hc4, eq_true hc5, eq_false hc6, eq_true hc10, eq_true hc11, eq_true (ix_nn h_e12), m_e12]; (repeat intro (_ : _ ≤ lim))
                  refine SemF.seq rfl ?_
                  refine SemF.reg true rfl ?_
                  try simp only [gE, ↓gT, ↓reduceIte, reduceCtorEq, reduceAdd, reduceEqDiff, reduceLeDiff, reduceLT, eq_false hc1, eq_false hc2, eq_false hc3, eq_false hc4, eq_true hc5, eq_false hc6, eq_true hc10, eq_true hc11, eq_true (ix_nn h_e12), m_e12]; (repeat intro (_ : _ ≤ lim))
                  obtain ⟨e14, h_e14, h⟩ := bs h
                  have m_e14 := ixm (f := Ty.enc) (ix_get h_e14)
                  try simp only [gE, ↓gT, ↓reduceIte, reduceCtorEq, reduceAdd, reduceEqDiff, reduceLeDiff, reduceLT, eq_false hc1, eq_false hc2, eq_false hc3, eq_false hc4, eq_true hc5, eq_false hc6, eq_true hc10, eq_true hc11, eq_true (ix_nn h_e12), m_e12, eq_true (ix_nn h_e14), m_e14]; (repeat intro (_ : _ ≤ lim))
                  obtain ⟨r15, h_r15, h⟩ := bs h
                  refine HCp.callE (ih_spec_l9Text (e14, (IntKind.i64.wrap (p1 + 1))) r15 h_r15) (by simp only [gE, ↓gT, ↓reduceIte, reduceCtorEq, reduceAdd, reduceEqDiff, reduceLeDiff, reduceLT, eq_false hc1, eq_false hc2, eq_false hc3, eq_false hc4, eq_true hc5, eq_false hc6, eq_true hc10, eq_true hc11, eq_true (ix_nn h_e12), m_e12, eq_true (ix_nn h_e14), m_e14]) (by simp only [scT, esT, and_self, true_and, and_true]) (by simp only [scT, esT, and_self, true_and, and_true]) ?_
                  try simp only [gE, ↓gT, ↓reduceIte, reduceCtorEq, reduceAdd, reduceEqDiff, reduceLeDiff, reduceLT, eq_false hc1, eq_false hc2, eq_false hc3, eq_false hc4, eq_true hc5, eq_false hc6, eq_true hc10, eq_true hc11, eq_true (ix_nn h_e12), m_e12, eq_true (ix_nn h_e14), m_e14]; (repeat intro (_ : _ ≤ lim))
                  refine SemF.seq rfl ?_
                  refine SemF.seq rfl ?_
                  refine SemF.reg true rfl ?_
                  try simp only [gE, ↓gT, ↓reduceIte, reduceCtorEq, reduceAdd, reduceEqDiff, reduceLeDiff, reduceLT, eq_false hc1, eq_false hc2, eq_false hc3, eq_false hc4, eq_true hc5, eq_false hc6, eq_true hc10, eq_true hc11, eq_true (ix_nn h_e12), m_e12, eq_true (ix_nn h_e14), m_e14]; (repeat intro (_ : _ ≤ lim))
                  by_cases hc16 : e12.K = 4
                  · rw [if_pos hc16] at h
                    refine SemF.cond rfl ?_
                    simp only [gE, ↓gT, ↓reduceIte, reduceCtorEq, reduceAdd, reduceEqDiff, reduceLeDiff, reduceLT, eq_false hc1, eq_false hc2, eq_false hc3, eq_false hc4, eq_true hc5, eq_false hc6, eq_true hc10, eq_true hc11, eq_true (ix_nn h_e12), m_e12, eq_true (ix_nn h_e14), m_e14, eq_true hc16]
                    refine SemF.reg true rfl ?_
                    try simp only [gE, ↓gT, ↓reduceIte, reduceCtorEq, reduceAdd, reduceEqDiff, reduceLeDiff, reduceLT, eq_false hc1, eq_false hc2, eq_false hc3, eq_false hc4, eq_true hc5, eq_false hc6, eq_true hc10, eq_true hc11, eq_true (ix_nn h_e12), m_e12, eq_true (ix_nn h_e14), m_e14, eq_true hc16]; (repeat intro (_ : _ ≤ lim))
                    obtain ⟨u18, h_u18, h⟩ := bs h
                    have hg17 := gd_some h_u18
                    try simp only [gE, ↓gT, ↓reduceIte, reduceCtorEq, reduceAdd, reduceEqDiff, reduceLeDiff, reduceLT, eq_false hc1, eq_false hc2, eq_false hc3, eq_false hc4, eq_true hc5, eq_false hc6, eq_true hc10, eq_true hc11, eq_true (ix_nn h_e12), m_e12, eq_true (ix_nn h_e14), m_e14, eq_true hc16, eq_true hg17]; (repeat intro (_ : _ ≤ lim))
                    obtain ⟨u20, h_u20, h⟩ := bs h
                    have hg19 := gd_some h_u20
                    try simp only [gE, ↓gT, ↓reduceIte, reduceCtorEq, reduceAdd, reduceEqDiff, reduceLeDiff, reduceLT, eq_false hc1, eq_false hc2, eq_false hc3, eq_false hc4, eq_true hc5, eq_false hc6, eq_true hc10, eq_true hc11, eq_true (ix_nn h_e12), m_e12, eq_true (ix_nn h_e14), m_e14, eq_true hc16, eq_true hg17, eq_true hg19]; (repeat intro (_ : _ ≤ lim))
                    refine SemF.seq rfl ?_
                    refine SemF.reg true rfl ?_
                    try simp only [gE, ↓gT, ↓reduceIte, reduceCtorEq, reduceAdd, reduceEqDiff, reduceLeDiff, reduceLT, eq_false hc1, eq_false hc2, eq_false hc3, eq_false hc4, eq_true hc5, eq_false hc6, eq_true hc10, eq_true hc11, eq_true (ix_nn h_e12), m_e12, eq_true (ix_nn h_e14), m_e14, eq_true hc16, eq_true hg17, eq_true hg19]; (repeat intro (_ : _ ≤ lim))
                    obtain ⟨u22, h_u22, h⟩ := bs h
                    have hg21 := gd_some h_u22
                    try simp only [gE, ↓gT, ↓reduceIte, reduceCtorEq, reduceAdd, reduceEqDiff, reduceLeDiff, reduceLT, eq_false hc1, eq_false hc2, eq_false hc3, eq_false hc4, eq_true hc5, eq_false hc6, eq_true hc10, eq_true hc11, eq_true (ix_nn h_e12), m_e12, eq_true (ix_nn h_e14), m_e14, eq_true hc16, eq_true hg17, eq_true hg19, eq_true hg21]; (repeat intro (_ : _ ≤ lim))
                    obtain ⟨u24, h_u24, h⟩ := bs h
                    have hg23 := gd_some h_u24
                    try simp only [gE, ↓gT, ↓reduceIte, reduceCtorEq, reduceAdd, reduceEqDiff, reduceLeDiff, reduceLT, eq_false hc1, eq_false hc2, eq_false hc3, eq_false hc4, eq_true hc5, eq_false hc6, eq_true hc10, eq_true hc11, eq_true (ix_nn h_e12), m_e12, eq_true (ix_nn h_e14), m_e14, eq_true hc16, eq_true hg17, eq_true hg19, eq_true hg21, eq_true hg23]; (repeat intro (_ : _ ≤ lim))
                    by_cases hc25 : r13.2 = true
                    · rw [if_pos hc25] at h
                      try simp only [gE, ↓gT, ↓reduceIte, reduceCtorEq, reduceAdd, reduceEqDiff, reduceLeDiff, reduceLT, eq_false hc1, eq_false hc2, eq_false hc3, eq_false hc4, eq_true hc5, eq_false hc6, eq_true hc10, eq_true hc11, eq_true (ix_nn h_e12), m_e12, eq_true (ix_nn h_e14), m_e14, eq_true hc16, eq_true hg17, eq_true hg19, eq_true hg21, eq_true hg23, hc25]; (repeat intro (_ : _ ≤ lim))
                      refine SemF.ret rfl ?_
                      try simp only [gE, ↓gT, ↓reduceIte, reduceCtorEq, reduceAdd, reduceEqDiff, reduceLeDiff, reduceLT, eq_false hc1, eq_false hc2, eq_false hc3, eq_false hc4, eq_true hc5, eq_false hc6, eq_true hc10, eq_true hc11, eq_true (ix_nn h_e12), m_e12, eq_true (ix_nn h_e14), m_e14, eq_true hc16, eq_true hg17, eq_true hg19, eq_true hg21, eq_true hg23, hc25]; (repeat intro (_ : _ ≤ lim))
                      obtain rfl := Option.some.inj h
                      simp only [gE, ↓gT, ↓reduceIte, reduceCtorEq, reduceAdd, reduceEqDiff, reduceLeDiff, reduceLT, RetP_def, eq_false hc1, eq_false hc2, eq_false hc3, eq_false hc4, eq_true hc5, eq_false hc6, eq_true hc10, eq_true hc11, eq_true (ix_nn h_e12), m_e12, eq_true (ix_nn h_e14), m_e14, eq_true hc16, eq_true hg17, eq_true hg19, eq_true hg21, eq_true hg23, hc25]
                    · rw [if_neg hc25] at h
                      replace hc25 := eq_false_of_ne_true hc25
                      try simp only [gE, ↓gT, ↓reduceIte, reduceCtorEq, reduceAdd, reduceEqDiff, reduceLeDiff, reduceLT, eq_false hc1, eq_false hc2, eq_false hc3, eq_false hc4, eq_true hc5, eq_false hc6, eq_true hc10, eq_true hc11, eq_true (ix_nn h_e12), m_e12, eq_true (ix_nn h_e14), m_e14, eq_true hc16, eq_true hg17, eq_true hg19, eq_true hg21, eq_true hg23, hc25]; (repeat intro (_ : _ ≤ lim))
                      refine SemF.ret rfl ?_
                      try simp only [gE, ↓gT, ↓reduceIte, reduceCtorEq, reduceAdd, reduceEqDiff, reduceLeDiff, reduceLT, eq_false hc1, eq_false hc2, eq_false hc3, eq_false hc4, eq_true hc5, eq_false hc6, eq_true hc10, eq_true hc11, eq_true (ix_nn h_e12), m_e12, eq_true (ix_nn h_e14), m_e14, eq_true hc16, eq_true hg17, eq_true hg19, eq_true hg21, eq_true hg23, hc25]; (repeat intro (_ : _ ≤ lim))
                      obtain rfl := Option.some.inj h
                      simp only [gE, ↓gT, ↓reduceIte, reduceCtorEq, reduceAdd, reduceEqDiff, reduceLeDiff, reduceLT, RetP_def, eq_false hc1, eq_false hc2, eq_false hc3, eq_false hc4, eq_true hc5, eq_false hc6, eq_true hc10, eq_true hc11, eq_true (ix_nn h_e12), m_e12, eq_true (ix_nn h_e14), m_e14, eq_true hc16, eq_true hg17, eq_true hg19, eq_true hg21, eq_true hg23, hc25]
                  · rw [if_neg hc16] at h
                    refine SemF.cond rfl ?_
                    simp only [gE, ↓gT, ↓reduceIte, reduceCtorEq, reduceAdd, reduceEqDiff, reduceLeDiff, reduceLT, eq_false hc1, eq_false hc2, eq_false hc3, eq_false hc4, eq_true hc5, eq_false hc6, eq_true hc10, eq_true hc11, eq_true (ix_nn h_e12), m_e12, eq_true (ix_nn h_e14), m_e14, eq_false hc16]
                    refine SemF.skip rfl ?_
                    simp only [gE, ↓gT, ↓reduceIte, reduceCtorEq, reduceAdd, reduceEqDiff, reduceLeDiff, reduceLT, eq_false hc1, eq_false hc2, eq_false hc3, eq_false hc4, eq_true hc5, eq_false hc6, eq_true hc10, eq_true hc11, eq_true (ix_nn h_e12), m_e12, eq_true (ix_nn h_e14), m_e14, eq_false hc16]
                    refine SemF.seq rfl ?_
                    refine SemF.reg true rfl ?_
                    try simp only [gE, ↓gT, ↓reduceIte, reduceCtorEq, reduceAdd, reduceEqDiff, reduceLeDiff, reduceLT, eq_false hc1, eq_false hc2, eq_false hc3, eq_false hc4, eq_true hc5, eq_false hc6, eq_true hc10, eq_true hc11, eq_true (ix_nn h_e12), m_e12, eq_true (ix_nn h_e14), m_e14, eq_false hc16]; (repeat intro (_ : _ ≤ lim))
                    obtain ⟨u27, h_u27, h⟩ := bs h
                    have hg26 := gd_some h_u27
                    try simp only [gE, ↓gT, ↓reduceIte, reduceCtorEq, reduceAdd, reduceEqDiff, reduceLeDiff, reduceLT, eq_false hc1, eq_false hc2, eq_false hc3, eq_false hc4, eq_true hc5, eq_false hc6, eq_true hc10, eq_true hc11, eq_true (ix_nn h_e12), m_e12, eq_true (ix_nn h_e14), m_e14, eq_false hc16, eq_true hg26]; (repeat intro (_ : _ ≤ lim))
                    obtain ⟨u29, h_u29, h⟩ := bs h
                    have hg28 := gd_some h_u29
                    try simp only [gE, ↓gT, ↓reduceIte, reduceCtorEq, reduceAdd, reduceEqDiff, reduceLeDiff, reduceLT, eq_false hc1, eq_false hc2, eq_false hc3, eq_false hc4, eq_true hc5, eq_false hc6, eq_true hc10, eq_true hc11, eq_true (ix_nn h_e12), m_e12, eq_true (ix_nn h_e14), m_e14, eq_false hc16, eq_true hg26, eq_true hg28]; (repeat intro (_ : _ ≤ lim))
                    by_cases hc30 : r13.2 = true
                    · rw [if_pos hc30] at h
                      try simp only [gE, ↓gT, ↓reduceIte, reduceCtorEq, reduceAdd, reduceEqDiff, reduceLeDiff, reduceLT, eq_false hc1, eq_false hc2, eq_false hc3, eq_false hc4, eq_true hc5, eq_false hc6, eq_true hc10, eq_true hc11, eq_true (ix_nn h_e12), m_e12, eq_true (ix_nn h_e14), m_e14, eq_false hc16, eq_true hg26, eq_true hg28, hc30]; (repeat intro (_ : _ ≤ lim))
                      refine SemF.ret rfl ?_
                      try simp only [gE, ↓gT, ↓reduceIte, reduceCtorEq, reduceAdd, reduceEqDiff, reduceLeDiff, reduceLT, eq_false hc1, eq_false hc2, eq_false hc3, eq_false hc4, eq_true hc5, eq_false hc6, eq_true hc10, eq_true hc11, eq_true (ix_nn h_e12), m_e12, eq_true (ix_nn h_e14), m_e14, eq_false hc16, eq_true hg26, eq_true hg28, hc30]; (repeat intro (_ : _ ≤ lim))
                      obtain rfl := Option.some.inj h
                      simp only [gE, ↓gT, ↓reduceIte, reduceCtorEq, reduceAdd, reduceEqDiff, reduceLeDiff, reduceLT, RetP_def, eq_false hc1, eq_false hc2, eq_false hc3, eq_false hc4, eq_true hc5, eq_false hc6, eq_true hc10, eq_true hc11, eq_true (ix_nn h_e12), m_e12, eq_true (ix_nn h_e14), m_e14, eq_false hc16, eq_true hg26, eq_true hg28, hc30]
                    · rw [if_neg hc30] at h
                      replace hc30 := eq_false_of_ne_true hc30
                      try simp only [gE, ↓gT, ↓reduceIte, reduceCtorEq, reduceAdd, reduceEqDiff, reduceLeDiff, reduceLT, eq_false hc1, eq_false hc2, eq_false hc3, eq_false hc4, eq_true hc5, eq_false hc6, eq_true hc10, eq_true hc11, eq_true (ix_nn h_e12), m_e12, eq_true (ix_nn h_e14), m_e14, eq_false hc16, eq_true hg26, eq_true hg28, hc30]; (repeat intro (_ : _ ≤ lim))
                      refine SemF.ret rfl ?_
                      try simp only [gE, ↓gT, ↓reduceIte, reduceCtorEq, reduceAdd, reduceEqDiff, reduceLeDiff, reduceLT, eq_false hc1, eq_false hc2, eq_false hc3, eq_false hc4, eq_true hc5, eq_false hc6, eq_true hc10, eq_true hc11, eq_true (ix_nn h_e12), m_e12, eq_true (ix_nn h_e14), m_e14, eq_false hc16, eq_true hg26, eq_true hg28, hc30]; (repeat intro (_ : _ ≤ lim))
                      obtain rfl := Option.some.inj h
                      simp only [gE, ↓gT, ↓reduceIte, reduceCtorEq, reduceAdd, reduceEqDiff, reduceLeDiff, reduceLT, RetP_def, eq_false hc1, eq_false hc2, eq_false hc3, eq_false hc4, eq_true hc5, eq_false hc6, eq_true hc10, eq_true hc11, eq_true (ix_nn h_e12), m_e12, eq_true (ix_nn h_e14), m_e14, eq_false hc16, eq_true hg26, eq_true hg28, hc30]
                · rw [if_neg hc11] at h
                  refine SemF.cond rfl ?_
                  simp only [gE, ↓gT, ↓reduceIte, reduceCtorEq, reduceAdd, reduceEqDiff, reduceLeDiff, reduceLT, eq_false hc1, eq_false hc2, eq_false hc3, eq_false hc4, eq_true hc5, eq_false hc6, eq_true hc10, eq_false hc11]
                  refine SemF.skip rfl ?_
                  simp only [gE, ↓gT, ↓reduceIte, reduceCtorEq, reduceAdd, reduceEqDiff, reduceLeDiff, reduceLT, eq_false hc1, eq_false hc2, eq_false hc3, eq_false hc4, eq_true hc5, eq_false hc6, eq_true hc10, eq_false hc11]
                  refine SemF.seq rfl ?_
                  refine SemF.reg true rfl ?_
                  try simp only [gE, ↓gT, ↓reduceIte, reduceCtorEq, reduceAdd, reduceEqDiff, reduceLeDiff, reduceLT, eq_false hc1, eq_false hc2, eq_false hc3, eq_false hc4, eq_true hc5, eq_false hc6, eq_true hc10, eq_false hc11]; (repeat intro (_ : _ ≤ lim))
                  refine SemF.ret rfl ?_
                  try simp only [gE, ↓gT, ↓reduceIte, reduceCtorEq, reduceAdd, reduceEqDiff, reduceLeDiff, reduceLT, eq_false hc1, eq_false hc2, eq_false hc3, eq_false hc4, eq_true hc5, eq_false hc6, eq_true hc10, eq_false hc11]; (repeat intro (_ : _ ≤ lim))
                  obtain rfl := Option.some.inj h
                  simp only [gE, ↓gT, ↓reduceIte, reduceCtorEq, reduceAdd, reduceEqDiff, reduceLeDiff, reduceLT, RetP_def, eq_false hc1, eq_false hc2, eq_false hc3, eq_false hc4, eq_true hc5, eq_false hc6, eq_true hc10, eq_false hc11]
              · rw [if_neg hc10] at h
                try simp only [gE, ↓gT, ↓reduceIte, reduceCtorEq, reduceAdd, reduceEqDiff, reduceLeDiff, reduceLT, eq_false hc1, eq_false hc2, eq_false hc3, eq_false hc4, eq_true hc5, eq_false hc6, eq_false hc10]; (repeat intro (_ : _ ≤ lim))
                refine SemF.cond rfl ?_
                simp only [gE, ↓gT, ↓reduceIte, reduceCtorEq, reduceAdd, reduceEqDiff, reduceLeDiff, reduceLT, eq_false hc1, eq_false hc2, eq_false hc3, eq_false hc4, eq_true hc5, eq_false hc6, eq_false hc10]
                refine SemF.skip rfl ?_
                simp only [gE, ↓gT, ↓reduceIte, reduceCtorEq, reduceAdd, reduceEqDiff, reduceLeDiff, reduceLT, eq_false hc1, eq_false hc2, eq_false hc3, eq_false hc4, eq_true hc5, eq_false hc6, eq_false hc10]
                refine SemF.seq rfl ?_
                refine SemF.reg true rfl ?_
                try simp only [gE, ↓gT, ↓reduceIte, reduceCtorEq, reduceAdd, reduceEqDiff, reduceLeDiff, reduceLT, eq_false hc1, eq_false hc2, eq_false hc3, eq_false hc4, eq_true hc5, eq_false hc6, eq_false hc10]; (repeat intro (_ : _ ≤ lim))
                refine SemF.ret rfl ?_
                try simp only [gE, ↓gT, ↓reduceIte, reduceCtorEq, reduceAdd, reduceEqDiff, reduceLeDiff, reduceLT, eq_false hc1, eq_false hc2, eq_false hc3, eq_false hc4, eq_true hc5, eq_false hc6, eq_false hc10]; (repeat intro (_ : _ ≤ lim))
                obtain rfl := Option.some.inj h
                simp only [gE, ↓gT, ↓reduceIte, reduceCtorEq, reduceAdd, reduceEqDiff, reduceLeDiff, reduceLT, RetP_def, eq_false hc1, eq_false hc2, eq_false hc3, eq_false hc4, eq_true hc5, eq_false hc6, eq_false hc10]
          · rw [if_neg hc5] at h
            try simp only [gE, ↓gT, ↓reduceIte, reduceCtorEq, reduceAdd, reduceEqDiff, reduceLeDiff, reduceLT, eq_false hc1, eq_false hc2, eq_false hc3, eq_false hc4, eq_false hc5]; (repeat intro (_ : _ ≤ lim))
            refine SemF.cond rfl ?_
            simp only [gE, ↓gT, ↓reduceIte, reduceCtorEq, reduceAdd, reduceEqDiff, reduceLeDiff, reduceLT, eq_false hc1, eq_false hc2, eq_false hc3, eq_false hc4, eq_false hc5]
            refine SemF.seq rfl ?_
            refine SemF.reg true rfl ?_
            try simp only [gE, ↓gT, ↓reduceIte, reduceCtorEq, reduceAdd, reduceEqDiff, reduceLeDiff, reduceLT, eq_false hc1, eq_false hc2, eq_false hc3, eq_false hc4, eq_false hc5]; (repeat intro (_ : _ ≤ lim))
            by_cases hc31 : p0.K = 4
            · rw [if_pos hc31] at h
              try simp only [gE, ↓gT, ↓reduceIte, reduceCtorEq, reduceAdd, reduceEqDiff, reduceLeDiff, reduceLT, eq_false hc1, eq_false hc2, eq_false hc3, eq_false hc4, eq_false hc5, eq_true hc31]; (repeat intro (_ : _ ≤ lim))
              (repeat intro (_ : _ ≤ lim))
              by_cases hc32 : ((p0.L.length : Nat) : Int) = 2
              · rw [if_pos hc32] at h
                refine SemF.cond rfl ?_
                simp only [gE, ↓gT, ↓reduceIte, reduceCtorEq, reduceAdd, reduceEqDiff, reduceLeDiff, reduceLT, eq_false hc1, eq_false hc2, eq_false hc3, eq_false hc4, eq_false hc5, eq_true hc31, eq_true hc32]
                refine SemF.seq rfl ?_
                refine SemF.reg true rfl ?_
                try simp only [gE, ↓gT, ↓reduceIte, reduceCtorEq, reduceAdd, reduceEqDiff, reduceLeDiff, reduceLT, eq_false hc1, eq_false hc2, eq_false hc3, eq_false hc4, eq_false hc5, eq_true hc31, eq_true hc32]; (repeat intro (_ : _ ≤ lim))
                obtain ⟨e33, h_e33, h⟩ := bs h
                have m_e33 := ixm (f := Ty.enc) (ix_get h_e33)
                try simp only [gE, ↓gT, ↓reduceIte, reduceCtorEq, reduceAdd, reduceEqDiff, reduceLeDiff, reduceLT, eq_false hc1, eq_false hc2, eq_false hc3, eq_false hc4, eq_false hc5, eq_true hc31, eq_true hc32, eq_true (ix_nn h_e33), m_e33]; (repeat intro (_ : _ ≤ lim))
                obtain ⟨r34, h_r34, h⟩ := bs h
                refine HCp.callE (ih_spec_l9Text (e33, (IntKind.i64.wrap (p1 + 1))) r34 h_r34) (by simp only [gE, ↓gT, ↓reduceIte, reduceCtorEq, reduceAdd, reduceEqDiff, reduceLeDiff, reduceLT, eq_false hc1, eq_false hc2, eq_false hc3, eq_false hc4, eq_false hc5, eq_true hc31, eq_true hc32, eq_true (ix_nn h_e33), m_e33]) (by simp only [scT, esT, and_self, true_and, and_true]) (by simp only [scT, esT, and_self, true_and, and_true]) ?_
                try simp only [gE, ↓gT, ↓reduceIte, reduceCtorEq, reduceAdd, reduceEqDiff, reduceLeDiff, reduceLT, eq_false hc1, eq_false hc2, eq_false hc3, eq_false hc4, eq_false hc5, eq_true hc31, eq_true hc32, eq_true (ix_nn h_e33), m_e33]; (repeat intro (_ : _ ≤ lim))
                refine SemF.seq rfl ?_
                refine SemF.reg true rfl ?_
                try simp only [gE, ↓gT, ↓reduceIte, reduceCtorEq, reduceAdd, reduceEqDiff, reduceLeDiff, reduceLT, eq_false hc1, eq_false hc2, eq_false hc3, eq_false hc4, eq_false hc5, eq_true hc31, eq_true hc32, eq_true (ix_nn h_e33), m_e33]; (repeat intro (_ : _ ≤ lim))
                obtain ⟨e35, h_e35, h⟩ := bs h
                have m_e35 := ixm (f := Ty.enc) (ix_get h_e35)
                try simp only [gE, ↓gT, ↓reduceIte, reduceCtorEq, reduceAdd, reduceEqDiff, reduceLeDiff, reduceLT, eq_false hc1, eq_false hc2, eq_false hc3, eq_false hc4, eq_false hc5, eq_true hc31, eq_true hc32, eq_true (ix_nn h_e33), m_e33, eq_true (ix_nn h_e35), m_e35]; (repeat intro (_ : _ ≤ lim))
                obtain ⟨r36, h_r36, h⟩ := bs h
                refine HCp.callE (ih_spec_l9Text (e35, (IntKind.i64.wrap (p1 + 1))) r36 h_r36) (by simp only [gE, ↓gT, ↓reduceIte, reduceCtorEq, reduceAdd, reduceEqDiff, reduceLeDiff, reduceLT, eq_false hc1, eq_false hc2, eq_false hc3, eq_false hc4, eq_false hc5, eq_true hc31, eq_true hc32, eq_true (ix_nn h_e33), m_e33, eq_true (ix_nn h_e35), m_e35]) (by simp only [scT, esT, and_self, true_and, and_true]) (by simp only [scT, esT, and_self, true_and, and_true]) ?_
                try simp only [gE, ↓gT, ↓reduceIte, reduceCtorEq, reduceAdd, reduceEqDiff, reduceLeDiff, reduceLT, eq_false hc1, eq_false hc2, eq_false hc3, eq_false hc4, eq_false hc5, eq_true hc31, eq_true hc32, eq_true (ix_nn h_e33), m_e33, eq_true (ix_nn h_e35), m_e35]; (repeat intro (_ : _ ≤ lim))
                refine SemF.seq rfl ?_
                refine SemF.seq rfl ?_
                refine SemF.reg true rfl ?_
                try simp only [gE, ↓gT, ↓reduceIte, reduceCtorEq, reduceAdd, reduceEqDiff, reduceLeDiff, reduceLT, eq_false hc1, eq_false hc2, eq_false hc3, eq_false hc4, eq_false hc5, eq_true hc31, eq_true hc32, eq_true (ix_nn h_e33), m_e33, eq_true (ix_nn h_e35), m_e35]; (repeat intro (_ : _ ≤ lim))
                by_cases hc37 : e33.K = 4
                · rw [if_pos hc37] at h
                  refine SemF.cond rfl ?_
                  simp only [gE, ↓gT, ↓reduceIte, reduceCtorEq, reduceAdd, reduceEqDiff, reduceLeDiff, reduceLT, eq_false hc1, eq_false hc2, eq_false hc3, eq_false hc4, eq_false hc5, eq_true hc31, eq_true hc32, eq_true (ix_nn h_e33), m_e33, eq_true (ix_nn h_e35), m_e35, eq_true hc37]
                  refine SemF.reg true rfl ?_
                  try simp only [gE, ↓gT, ↓reduceIte, reduceCtorEq, reduceAdd, reduceEqDiff, reduceLeDiff, reduceLT, eq_false hc1, eq_false hc2, eq_false hc3, eq_false hc4, eq_false hc5, eq_true hc31, eq_true hc32, eq_true (ix_nn h_e33), m_e33, eq_true (ix_nn h_e35), m_e35, eq_true hc37]; (repeat intro (_ : _ ≤ lim))
                  obtain ⟨u39, h_u39, h⟩ := bs h
                  have hg38 := gd_some h_u39
                  try simp only [gE, ↓gT, ↓reduceIte, reduceCtorEq, reduceAdd, reduceEqDiff, reduceLeDiff, reduceLT, eq_false hc1, eq_false hc2, eq_false hc3, eq_false hc4, eq_false hc5, eq_true hc31, eq_true hc32, eq_true (ix_nn h_e33), m_e33, eq_true (ix_nn h_e35), m_e35, eq_true hc37, eq_true hg38]; (repeat intro (_ : _ ≤ lim))
                  obtain ⟨u41, h_u41, h⟩ := bs h
                  have hg40 := gd_some h_u41
                  try simp only [gE, ↓gT, ↓reduceIte, reduceCtorEq, reduceAdd, reduceEqDiff, reduceLeDiff, reduceLT, eq_false hc1, eq_false hc2, eq_false hc3, eq_false hc4, eq_false hc5, eq_true hc31, eq_true hc32, eq_true (ix_nn h_e33), m_e33, eq_true (ix_nn h_e35), m_e35, eq_true hc37, eq_true hg38, eq_true hg40]; (repeat intro (_ : _ ≤ lim))
                  refine SemF.seq rfl ?_
                  refine SemF.reg true rfl ?_
                  try simp only [gE, ↓gT, ↓reduceIte, reduceCtorEq, reduceAdd, reduceEqDiff, reduceLeDiff, reduceLT, eq_false hc1, eq_false hc2, eq_false hc3, eq_false hc4, eq_false hc5, eq_true hc31, eq_true hc32, eq_true (ix_nn h_e33), m_e33, eq_true (ix_nn h_e35), m_e35, eq_true hc37, eq_true hg38, eq_true hg40]; (repeat intro (_ : _ ≤ lim))
                  obtain ⟨u43, h_u43, h⟩ := bs h
                  have hg42 := gd_some h_u43
                  try simp only [gE, ↓gT, ↓reduceIte, reduceCtorEq, reduceAdd, reduceEqDiff, reduceLeDiff, reduceLT, eq_false hc1, eq_false hc2, eq_false hc3, eq_false hc4, eq_false hc5, eq_true hc31, eq_true hc32, eq_true (ix_nn h_e33), m_e33, eq_true (ix_nn h_e35), m_e35, eq_true hc37, eq_true hg38, eq_true hg40, eq_true hg42]; (repeat intro (_ : _ ≤ lim))
                  obtain ⟨u45, h_u45, h⟩ := bs h
                  have hg44 := gd_some h_u45
                  try simp only [gE, ↓gT, ↓reduceIte, reduceCtorEq, reduceAdd, reduceEqDiff, reduceLeDiff, reduceLT, eq_false hc1, eq_false hc2, eq_false hc3, eq_false hc4, eq_false hc5, eq_true hc31, eq_true hc32, eq_true (ix_nn h_e33), m_e33, eq_true (ix_nn h_e35), m_e35, eq_true hc37, eq_true hg38, eq_true hg40, eq_true hg42, eq_true hg44]; (repeat intro (_ : _ ≤ lim))
                  by_cases hc46 : r34.2 = true
                  · rw [if_pos hc46] at h
                    try simp only [gE, ↓gT, ↓reduceIte, reduceCtorEq, reduceAdd, reduceEqDiff, reduceLeDiff, reduceLT, eq_false hc1, eq_false hc2, eq_false hc3, eq_false hc4, eq_false hc5, eq_true hc31, eq_true hc32, eq_true (ix_nn h_e33), m_e33, eq_true (ix_nn h_e35), m_e35, eq_true hc37, eq_true hg38, eq_true hg40, eq_true hg42, eq_true hg44, hc46]; (repeat intro (_ : _ ≤ lim))
                    refine SemF.ret rfl ?_
                    try simp only [gE, ↓gT, ↓reduceIte, reduceCtorEq, reduceAdd, reduceEqDiff, reduceLeDiff, reduceLT, eq_false hc1, eq_false hc2, eq_false hc3, eq_false hc4, eq_false hc5, eq_true hc31, eq_true hc32, eq_true (ix_nn h_e33), m_e33, eq_true (ix_nn h_e35), m_e35, eq_true hc37, eq_true hg38, eq_true hg40, eq_true hg42, eq_true hg44, hc46]; (repeat intro (_ : _ ≤ lim))
                    obtain rfl := Option.some.inj h
                    simp only [gE, ↓gT, ↓reduceIte, reduceCtorEq, reduceAdd, reduceEqDiff, reduceLeDiff, reduceLT, RetP_def, eq_false hc1, eq_false hc2, eq_false hc3, eq_false hc4, eq_false hc5, eq_true hc31, eq_true hc32, eq_true (ix_nn h_e33), m_e33, eq_true (ix_nn h_e35), m_e35, eq_true hc37, eq_true hg38, eq_true hg40, eq_true hg42, eq_true hg44, hc46]
                  · rw [if_neg hc46] at h
                    replace hc46 := eq_false_of_ne_true hc46
                    try simp only [gE, ↓gT, ↓reduceIte, reduceCtorEq, reduceAdd, reduceEqDiff, reduceLeDiff, reduceLT, eq_false hc1, eq_false hc2, eq_false hc3, eq_false hc4, eq_false hc5, eq_true hc31, eq_true hc32, eq_true (ix_nn h_e33), m_e33, eq_true (ix_nn h_e35), m_e35, eq_true hc37, eq_true hg38, eq_true hg40, eq_true hg42, eq_true hg44, hc46]; (repeat intro (_ : _ ≤ lim))
                    refine SemF.ret rfl ?_
                    try simp only [gE, ↓gT, ↓reduceIte, reduceCtorEq, reduceAdd, reduceEqDiff, reduceLeDiff, reduceLT, eq_false hc1, eq_false hc2, eq_false hc3, eq_false hc4, eq_false hc5, eq_true hc31, eq_true hc32, eq_true (ix_nn h_e33), m_e33, eq_true (ix_nn h_e35), m_e35, eq_true hc37, eq_true hg38, eq_true hg40, eq_true hg42, eq_true hg44, hc46]; (repeat intro (_ : _ ≤ lim))
                    obtain rfl := Option.some.inj h
                    simp only [gE, ↓gT, ↓reduceIte, reduceCtorEq, reduceAdd, reduceEqDiff, reduceLeDiff, reduceLT, RetP_def, eq_false hc1, eq_false hc2, eq_false hc3, eq_false hc4, eq_false hc5, eq_true hc31, eq_true hc32, eq_true (ix_nn h_e33), m_e33, eq_true (ix_nn h_e35), m_e35, eq_true hc37, eq_true hg38, eq_true hg40, eq_true hg42, eq_true hg44, hc46]
                · rw [if_neg hc37] at h
                  refine SemF.cond rfl ?_
                  simp only [gE, ↓gT, ↓reduceIte, reduceCtorEq, reduceAdd, reduceEqDiff, reduceLeDiff, reduceLT, eq_false hc1, eq_false hc2, eq_false hc3, eq_false hc4, eq_false hc5, eq_true hc31, eq_true hc32, eq_true (ix_nn h_e33), m_e33, eq_true (ix_nn h_e35), m_e35, eq_false hc37]
                  refine SemF.skip rfl ?_
                  simp only [gE, ↓gT, ↓reduceIte, reduceCtorEq, reduceAdd, reduceEqDiff, reduceLeDiff, reduceLT, eq_false hc1, eq_false hc2, eq_false hc3, eq_false hc4, eq_false hc5, eq_true hc31, eq_true hc32, eq_true (ix_nn h_e33), m_e33, eq_true (ix_nn h_e35), m_e35, eq_false hc37]
                  refine SemF.seq rfl ?_
                  refine SemF.reg true rfl ?_
                  try simp only [gE, ↓gT, ↓reduceIte, reduceCtorEq, reduceAdd, reduceEqDiff, reduceLeDiff, reduceLT, eq_false hc1, eq_false hc2, eq_false hc3, eq_false hc4, eq_false hc5, eq_true hc31, eq_true hc32, eq_true (ix_nn h_e33), m_e33, eq_true (ix_nn h_e35), m_e35, eq_false hc37]; (repeat intro (_ : _ ≤ lim))
                  obtain ⟨u48, h_u48, h⟩ := bs h
                  have hg47 := gd_some h_u48
                  try simp only [gE, ↓gT, ↓reduceIte, reduceCtorEq, reduceAdd, reduceEqDiff, reduceLeDiff, reduceLT, eq_false hc1, eq_false hc2, eq_false hc3, eq_false hc4, eq_false hc5, eq_true hc31, eq_true hc32, eq_true (ix_nn h_e33), m_e33, eq_true (ix_nn h_e35), m_e35, eq_false hc37, eq_true hg47]; (repeat intro (_ : _ ≤ lim))
                  obtain ⟨u50, h_u50, h⟩ := bs h
                  have hg49 := gd_some h_u50
                  try simp only [gE, ↓gT, ↓reduceIte, reduceCtorEq, reduceAdd, reduceEqDiff, reduceLeDiff, reduceLT, eq_false hc1, eq_false hc2, eq_false hc3, eq_false hc4, eq_false hc5, eq_true hc31, eq_true hc32, eq_true (ix_nn h_e33), m_e33, eq_true (ix_nn h_e35), m_e35, eq_false hc37, eq_true hg47, eq_true hg49]; (repeat intro (_ : _ ≤ lim))
                  by_cases hc51 : r34.2 = true
                  · rw [if_pos hc51] at h
                    try simp only [gE, ↓gT, ↓reduceIte, reduceCtorEq, reduceAdd, reduceEqDiff, reduceLeDiff, reduceLT, eq_false hc1, eq_false hc2, eq_false hc3, eq_false hc4, eq_false hc5, eq_true hc31, eq_true hc32, eq_true (ix_nn h_e33), m_e33, eq_true (ix_nn h_e35), m_e35, eq_false hc37, eq_true hg47, eq_true hg49, hc51]; (repeat intro (_ : _ ≤ lim))
                    refine SemF.ret rfl ?_
                    try simp only [gE, ↓gT, ↓reduceIte, reduceCtorEq, reduceAdd, reduceEqDiff, reduceLeDiff, reduceLT, eq_false hc1, eq_false hc2, eq_false hc3, eq_false hc4, eq_false hc5, eq_true hc31, eq_true hc32, eq_true (ix_nn h_e33), m_e33, eq_true (ix_nn h_e35), m_e35, eq_false hc37, eq_true hg47, eq_true hg49, hc51]; (repeat intro (_ : _ ≤ lim))
                    obtain rfl := Option.some.inj h
                    simp only [gE, ↓gT, ↓reduceIte, reduceCtorEq, reduceAdd, reduceEqDiff, reduceLeDiff, reduceLT, RetP_def, eq_false hc1, eq_false hc2, eq_false hc3, eq_false hc4, eq_false hc5, eq_true hc31, eq_true hc32, eq_true (ix_nn h_e33), m_e33, eq_true (ix_nn h_e35), m_e35, eq_false hc37, eq_true hg47, eq_true hg49, hc51]
                  · rw [if_neg hc51] at h
                    replace hc51 := eq_false_of_ne_true hc51
                    try simp only [gE, ↓gT, ↓reduceIte, reduceCtorEq, reduceAdd, reduceEqDiff, reduceLeDiff, reduceLT, eq_false hc1, eq_false hc2, eq_false hc3, eq_false hc4, eq_false hc5, eq_true hc31, eq_true hc32, eq_true (ix_nn h_e33), m_e33, eq_true (ix_nn h_e35), m_e35, eq_false hc37, eq_true hg47, eq_true hg49, hc51]; (repeat intro (_ : _ ≤ lim))
                    refine SemF.ret rfl ?_
                    try simp only [gE, ↓gT, ↓reduceIte, reduceCtorEq, reduceAdd, reduceEqDiff, reduceLeDiff, reduceLT, eq_false hc1, eq_false hc2, eq_false hc3, eq_false hc4, eq_false hc5, eq_true hc31, eq_true hc32, eq_true (ix_nn h_e33), m_e33, eq_true (ix_nn h_e35), m_e35, eq_false hc37, eq_true hg47, eq_true hg49, hc51]; (repeat intro (_ : _ ≤ lim))
                    obtain rfl := Option.some.inj h
                    simp only [gE, ↓gT, ↓reduceIte, reduceCtorEq, reduceAdd, reduceEqDiff, reduceLeDiff, reduceLT, RetP_def, eq_false hc1, eq_false hc2, eq_false hc3, eq_false hc4, eq_false hc5, eq_true hc31, eq_true hc32, eq_true (ix_nn h_e33), m_e33, eq_true (ix_nn h_e35), m_e35, eq_false hc37, eq_true hg47, eq_true hg49, hc51]
              · rw [if_neg hc32] at h
                refine SemF.cond rfl ?_
                simp only [gE, ↓gT, ↓reduceIte, reduceCtorEq, reduceAdd, reduceEqDiff, reduceLeDiff, reduceLT, eq_false hc1, eq_false hc2, eq_false hc3, eq_false hc4, eq_false hc5, eq_true hc31, eq_false hc32]
                refine SemF.skip rfl ?_
                simp only [gE, ↓gT, ↓reduceIte, reduceCtorEq, reduceAdd, reduceEqDiff, reduceLeDiff, reduceLT, eq_false hc1, eq_false hc2, eq_false hc3, eq_false hc4, eq_false hc5, eq_true hc31, eq_false hc32]
                refine SemF.seq rfl ?_
                refine SemF.reg true rfl ?_
                try simp only [gE, ↓gT, ↓reduceIte, reduceCtorEq, reduceAdd, reduceEqDiff, reduceLeDiff, reduceLT, eq_false hc1, eq_false hc2, eq_false hc3, eq_false hc4, eq_false hc5, eq_true hc31, eq_false hc32]; (repeat intro (_ : _ ≤ lim))
                refine SemF.ret rfl ?_
                try simp only [gE, ↓gT, ↓reduceIte, reduceCtorEq, reduceAdd, reduceEqDiff, reduceLeDiff, reduceLT, eq_false hc1, eq_false hc2, eq_false hc3, eq_false hc4, eq_false hc5, eq_true hc31, eq_false hc32]; (repeat intro (_ : _ ≤ lim))
                obtain rfl := Option.some.inj h
                simp only [gE, ↓gT, ↓reduceIte, reduceCtorEq, reduceAdd, reduceEqDiff, reduceLeDiff, reduceLT, RetP_def, eq_false hc1, eq_false hc2, eq_false hc3, eq_false hc4, eq_false hc5, eq_true hc31, eq_false hc32]
            · rw [if_neg hc31] at h
              try simp only [gE, ↓gT, ↓reduceIte, reduceCtorEq, reduceAdd, reduceEqDiff, reduceLeDiff, reduceLT, eq_false hc1, eq_false hc2, eq_false hc3, eq_false hc4, eq_false hc5, eq_false hc31]; (repeat intro (_ : _ ≤ lim))
              refine SemF.cond rfl ?_
              simp only [gE, ↓gT, ↓reduceIte, reduceCtorEq, reduceAdd, reduceEqDiff, reduceLeDiff, reduceLT, eq_false hc1, eq_false hc2, eq_false hc3, eq_false hc4, eq_false hc5, eq_false hc31]
              refine SemF.skip rfl ?_
              simp only [gE, ↓gT, ↓reduceIte, reduceCtorEq, reduceAdd, reduceEqDiff, reduceLeDiff, reduceLT, eq_false hc1, eq_false hc2, eq_false hc3, eq_false hc4, eq_false hc5, eq_false hc31]
              refine SemF.seq rfl ?_
              refine SemF.reg true rfl ?_
              try simp only [gE, ↓gT, ↓reduceIte, reduceCtorEq, reduceAdd, reduceEqDiff, reduceLeDiff, reduceLT, eq_false hc1, eq_false hc2, eq_false hc3, eq_false hc4, eq_false hc5, eq_false hc31]; (repeat intro (_ : _ ≤ lim))
              refine SemF.ret rfl ?_
              try simp only [gE, ↓gT, ↓reduceIte, reduceCtorEq, reduceAdd, reduceEqDiff, reduceLeDiff, reduceLT, eq_false hc1, eq_false hc2, eq_false hc3, eq_false hc4, eq_false hc5, eq_false hc31]; (repeat intro (_ : _ ≤ lim))
              obtain rfl := Option.some.inj h
              simp only [gE, ↓gT, ↓reduceIte, reduceCtorEq, reduceAdd, reduceEqDiff, reduceLeDiff, reduceLT, RetP_def, eq_false hc1, eq_false hc2, eq_false hc3, eq_false hc4, eq_false hc5, eq_false hc31]
end K
end W
