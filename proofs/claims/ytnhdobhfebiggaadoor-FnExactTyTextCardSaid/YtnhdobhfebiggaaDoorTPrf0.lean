import Derived.Test.YtnhdobhfebiggaaDoorTMan
namespace W
set_option linter.unusedSimpArgs false
set_option linter.unusedVariables false
open Go HL S
open Nat (reduceAdd reduceEqDiff reduceLeDiff reduceSub reduceMul reduceLT)
set_option linter.unusedVariables false
set_option maxRecDepth 100000
set_option maxHeartbeats 4000000
namespace K
theorem impl_tyText_step (f_impl_tyText : (Ty × Int) → Option (ByteArray × Bool)) (ih_impl_tyText : ∀ (x : (Ty × Int)) (r : (ByteArray × Bool)), f_impl_tyText x = some r → HCp P F.impl_tyText [(Ty.enc x.1), (.int .i64 x.2)] (HV.tup [(HV.str r.1), (HV.bool r.2)])) (x : (Ty × Int)) (r : (ByteArray × Bool)) (h : (if 12 < x.2 then some ((⟨⟨[]⟩⟩ : ByteArray), false) else
    (if x.1.K = 1 then some ((⟨⟨[73, 110, 116]⟩⟩ : ByteArray), true) else
    (if x.1.K = 2 then some ((⟨⟨[66, 111, 111, 108]⟩⟩ : ByteArray), true) else
    (if x.1.K = 3 then some (x.1.S, true) else
    (if x.1.K = 5 then (M.strconv_Itoa x.1.N >>= fun r6 =>
    (gd ((⟨⟨[116]⟩⟩ : ByteArray).size + r6.size ≤ lim) >>= fun u8 =>
    some (((⟨⟨[116]⟩⟩ : ByteArray) ++ r6), (decide (0 ≤ x.1.N))))) else
    (if x.1.K = 4 then (if ((x.1.L.length : Nat) : Int) = 2 then (ix x.1.L 0 >>= fun e11 =>
    (f_impl_tyText (e11, (IntKind.i64.wrap (x.2 + 1))) >>= fun r12 =>
    (ix x.1.L 1 >>= fun e13 =>
    (f_impl_tyText (e13, (IntKind.i64.wrap (x.2 + 1))) >>= fun r14 =>
    (if e11.K = 4 then (gd ((⟨⟨[40]⟩⟩ : ByteArray).size + r12.1.size ≤ lim) >>= fun u17 =>
    (gd (((⟨⟨[40]⟩⟩ : ByteArray) ++ r12.1).size + (⟨⟨[41]⟩⟩ : ByteArray).size ≤ lim) >>= fun u19 =>
    (gd ((((⟨⟨[40]⟩⟩ : ByteArray) ++ r12.1) ++ (⟨⟨[41]⟩⟩ : ByteArray)).size + (⟨⟨[32, 45, 62, 32]⟩⟩ : ByteArray).size ≤ lim) >>= fun u21 =>
    (gd (((((⟨⟨[40]⟩⟩ : ByteArray) ++ r12.1) ++ (⟨⟨[41]⟩⟩ : ByteArray)) ++ (⟨⟨[32, 45, 62, 32]⟩⟩ : ByteArray)).size + r14.1.size ≤ lim) >>= fun u23 =>
    (if r12.2 = true then some ((((((⟨⟨[40]⟩⟩ : ByteArray) ++ r12.1) ++ (⟨⟨[41]⟩⟩ : ByteArray)) ++ (⟨⟨[32, 45, 62, 32]⟩⟩ : ByteArray)) ++ r14.1), r14.2) else
    some ((((((⟨⟨[40]⟩⟩ : ByteArray) ++ r12.1) ++ (⟨⟨[41]⟩⟩ : ByteArray)) ++ (⟨⟨[32, 45, 62, 32]⟩⟩ : ByteArray)) ++ r14.1), false)))))) else
    (gd (r12.1.size + (⟨⟨[32, 45, 62, 32]⟩⟩ : ByteArray).size ≤ lim) >>= fun u26 =>
    (gd ((r12.1 ++ (⟨⟨[32, 45, 62, 32]⟩⟩ : ByteArray)).size + r14.1.size ≤ lim) >>= fun u28 =>
    (if r12.2 = true then some (((r12.1 ++ (⟨⟨[32, 45, 62, 32]⟩⟩ : ByteArray)) ++ r14.1), r14.2) else
    some (((r12.1 ++ (⟨⟨[32, 45, 62, 32]⟩⟩ : ByteArray)) ++ r14.1), false))))))))) else
    some ((⟨⟨[]⟩⟩ : ByteArray), false)) else
    some ((⟨⟨[]⟩⟩ : ByteArray), false))))))) = some r) : HCp P F.impl_tyText [(Ty.enc x.1), (.int .i64 x.2)] (HV.tup [(HV.str r.1), (HV.bool r.2)]) := by
  obtain ⟨p0, p1⟩ := x
  try dsimp only at h
  refine HCp.mkF S.impl_tyText (by simp [H.impl_tyText]) (by simp only [scT, esT, and_self, true_and, and_true]) ?_
  simp only [gE, ↓gT, ↓reduceIte, reduceCtorEq, reduceAdd, reduceEqDiff, reduceLeDiff, reduceLT, H.impl_tyText]
  refine SemF.seq rfl ?_
  refine SemF.reg true rfl ?_
  try simp only [gE, ↓gT, ↓reduceIte, reduceCtorEq, reduceAdd, reduceEqDiff, reduceLeDiff, reduceLT]; (repeat intro (_ : _ ≤ lim))
  refine SemF.seq rfl ?_
  refine SemF.block rfl ?_
  refine SemF.seq rfl ?_
  refine SemF.reg true rfl ?_
  try simp only [gE, ↓gT, ↓reduceIte, reduceCtorEq, reduceAdd, reduceEqDiff, reduceLeDiff, reduceLT]; (repeat intro (_ : _ ≤ lim))
  by_cases hc1 : 12 < p1
  · rw [if_pos hc1] at h
    refine SemF.cond rfl ?_
    simp only [gE, ↓gT, ↓reduceIte, reduceCtorEq, reduceAdd, reduceEqDiff, reduceLeDiff, reduceLT, eq_true hc1]
    refine SemF.seq rfl ?_
    refine SemF.reg true rfl ?_
    try simp only [gE, ↓gT, ↓reduceIte, reduceCtorEq, reduceAdd, reduceEqDiff, reduceLeDiff, reduceLT, eq_true hc1]; (repeat intro (_ : _ ≤ lim))
    refine SemF.ret rfl ?_
    try simp only [gE, ↓gT, ↓reduceIte, reduceCtorEq, reduceAdd, reduceEqDiff, reduceLeDiff, reduceLT, eq_true hc1]; (repeat intro (_ : _ ≤ lim))
    obtain rfl := Option.some.inj h
    simp only [gE, ↓gT, ↓reduceIte, reduceCtorEq, reduceAdd, reduceEqDiff, reduceLeDiff, reduceLT, RetP_def, eq_true hc1]
  · rw [if_neg hc1] at h
    refine SemF.cond rfl ?_
    simp only [gE, ↓gT, ↓reduceIte, reduceCtorEq, reduceAdd, reduceEqDiff, reduceLeDiff, reduceLT, eq_false hc1]
    refine SemF.seq rfl ?_
    refine SemF.reg true rfl ?_
    try simp only [gE, ↓gT, ↓reduceIte, reduceCtorEq, reduceAdd, reduceEqDiff, reduceLeDiff, reduceLT, eq_false hc1]; (repeat intro (_ : _ ≤ lim))
    by_cases hc2 : p0.K = 1
    · rw [if_pos hc2] at h
      refine SemF.cond rfl ?_
      simp only [gE, ↓gT, ↓reduceIte, reduceCtorEq, reduceAdd, reduceEqDiff, reduceLeDiff, reduceLT, eq_false hc1, eq_true hc2]
      refine SemF.seq rfl ?_
      refine SemF.reg true rfl ?_
      try simp only [gE, ↓gT, ↓reduceIte, reduceCtorEq, reduceAdd, reduceEqDiff, reduceLeDiff, reduceLT, eq_false hc1, eq_true hc2]; (repeat intro (_ : _ ≤ lim))
      refine SemF.ret rfl ?_
      try simp only [gE, ↓gT, ↓reduceIte, reduceCtorEq, reduceAdd, reduceEqDiff, reduceLeDiff, reduceLT, eq_false hc1, eq_true hc2]; (repeat intro (_ : _ ≤ lim))
      obtain rfl := Option.some.inj h
      simp only [gE, ↓gT, ↓reduceIte, reduceCtorEq, reduceAdd, reduceEqDiff, reduceLeDiff, reduceLT, RetP_def, eq_false hc1, eq_true hc2]
    · rw [if_neg hc2] at h
      refine SemF.cond rfl ?_
      simp only [gE, ↓gT, ↓reduceIte, reduceCtorEq, reduceAdd, reduceEqDiff, reduceLeDiff, reduceLT, eq_false hc1, eq_false hc2]
      refine SemF.seq rfl ?_
      refine SemF.reg true rfl ?_
      try simp only [gE, ↓gT, ↓reduceIte, reduceCtorEq, reduceAdd, reduceEqDiff, reduceLeDiff, reduceLT, eq_false hc1, eq_false hc2]; (repeat intro (_ : _ ≤ lim))
      by_cases hc3 : p0.K = 2
      · rw [if_pos hc3] at h
        refine SemF.cond rfl ?_
        simp only [gE, ↓gT, ↓reduceIte, reduceCtorEq, reduceAdd, reduceEqDiff, reduceLeDiff, reduceLT, eq_false hc1, eq_false hc2, eq_true hc3]
        refine SemF.seq rfl ?_
        refine SemF.reg true rfl ?_
        try simp only [gE, ↓gT, ↓reduceIte, reduceCtorEq, reduceAdd, reduceEqDiff, reduceLeDiff, reduceLT, eq_false hc1, eq_false hc2, eq_true hc3]; (repeat intro (_ : _ ≤ lim))
        refine SemF.ret rfl ?_
        try simp only [gE, ↓gT, ↓reduceIte, reduceCtorEq, reduceAdd, reduceEqDiff, reduceLeDiff, reduceLT, eq_false hc1, eq_false hc2, eq_true hc3]; (repeat intro (_ : _ ≤ lim))
        obtain rfl := Option.some.inj h
        simp only [gE, ↓gT, ↓reduceIte, reduceCtorEq, reduceAdd, reduceEqDiff, reduceLeDiff, reduceLT, RetP_def, eq_false hc1, eq_false hc2, eq_true hc3]
      · rw [if_neg hc3] at h
        refine SemF.cond rfl ?_
        simp only [gE, ↓gT, ↓reduceIte, reduceCtorEq, reduceAdd, reduceEqDiff, reduceLeDiff, reduceLT, eq_false hc1, eq_false hc2, eq_false hc3]
        refine SemF.seq rfl ?_
        refine SemF.reg true rfl ?_
        try simp only [gE, ↓gT, ↓reduceIte, reduceCtorEq, reduceAdd, reduceEqDiff, reduceLeDiff, reduceLT, eq_false hc1, eq_false hc2, eq_false hc3]; (repeat intro (_ : _ ≤ lim))
        by_cases hc4 : p0.K = 3
        · rw [if_pos hc4] at h
          refine SemF.cond rfl ?_
          simp only [gE, ↓gT, ↓reduceIte, reduceCtorEq, reduceAdd, reduceEqDiff, reduceLeDiff, reduceLT, eq_false hc1, eq_false hc2, eq_false hc3, eq_true hc4]
          refine SemF.seq rfl ?_
          refine SemF.reg true rfl ?_
          try simp only [gE, ↓gT, ↓reduceIte, reduceCtorEq, reduceAdd, reduceEqDiff, reduceLeDiff, reduceLT, eq_false hc1, eq_false hc2, eq_false hc3, eq_true hc4]; (repeat intro (_ : _ ≤ lim))
          refine SemF.ret rfl ?_
          try simp only [gE, ↓gT, ↓reduceIte, reduceCtorEq, reduceAdd, reduceEqDiff, reduceLeDiff, reduceLT, eq_false hc1, eq_false hc2, eq_false hc3, eq_true hc4]; (repeat intro (_ : _ ≤ lim))
          obtain rfl := Option.some.inj h
          simp only [gE, ↓gT, ↓reduceIte, reduceCtorEq, reduceAdd, reduceEqDiff, reduceLeDiff, reduceLT, RetP_def, eq_false hc1, eq_false hc2, eq_false hc3, eq_true hc4]
        · rw [if_neg hc4] at h
          refine SemF.cond rfl ?_
          simp only [gE, ↓gT, ↓reduceIte, reduceCtorEq, reduceAdd, reduceEqDiff, reduceLeDiff, reduceLT, eq_false hc1, eq_false hc2, eq_false hc3, eq_false hc4]
          refine SemF.seq rfl ?_
          refine SemF.reg true rfl ?_
          try simp only [gE, ↓gT, ↓reduceIte, reduceCtorEq, reduceAdd, reduceEqDiff, reduceLeDiff, reduceLT, eq_false hc1, eq_false hc2, eq_false hc3, eq_false hc4]; (repeat intro (_ : _ ≤ lim))
          by_cases hc5 : p0.K = 5
          · rw [if_pos hc5] at h
            refine SemF.cond rfl ?_
            simp only [gE, ↓gT, ↓reduceIte, reduceCtorEq, reduceAdd, reduceEqDiff, reduceLeDiff, reduceLT, eq_false hc1, eq_false hc2, eq_false hc3, eq_false hc4, eq_true hc5]
            refine SemF.seq rfl ?_
            refine SemF.dreg true rfl ?_
            try simp only [gE, ↓gT, ↓reduceIte, reduceCtorEq, reduceAdd, reduceEqDiff, reduceLeDiff, reduceLT, eq_false hc1, eq_false hc2, eq_false hc3, eq_false hc4, eq_true hc5]; (repeat intro (_ : _ ≤ lim))
            obtain ⟨r6, h_r6, h⟩ := bs h
            refine HCp.callE (K.strconv_Itoa p0.N r6 h_r6) (by simp only [gE, ↓gT, ↓reduceIte, reduceCtorEq, reduceAdd, reduceEqDiff, reduceLeDiff, reduceLT, eq_false hc1, eq_false hc2, eq_false hc3, eq_false hc4, eq_true hc5]) (by simp only [scT, esT, and_self, true_and, and_true]) (by simp only [scT, esT, and_self, true_and, and_true]) ?_
            try simp only [gE, ↓gT, ↓reduceIte, reduceCtorEq, reduceAdd, reduceEqDiff, reduceLeDiff, reduceLT, eq_false hc1, eq_false hc2, eq_false hc3, eq_false hc4, eq_true hc5]; (repeat intro (_ : _ ≤ lim))
            obtain ⟨u8, h_u8, h⟩ := bs h
            have hg7 := gd_some h_u8
            try simp only [gE, ↓gT, ↓reduceIte, reduceCtorEq, reduceAdd, reduceEqDiff, reduceLeDiff, reduceLT, eq_false hc1, eq_false hc2, eq_false hc3, eq_false hc4, eq_true hc5, eq_true hg7]; (repeat intro (_ : _ ≤ lim))
            refine SemF.ret rfl ?_
            try simp only [gE, ↓gT, ↓reduceIte, reduceCtorEq, reduceAdd, reduceEqDiff, reduceLeDiff, reduceLT, eq_false hc1, eq_false hc2, eq_false hc3, eq_false hc4, eq_true hc5, eq_true hg7]; (repeat intro (_ : _ ≤ lim))
            obtain rfl := Option.some.inj h
            simp only [gE, ↓gT, ↓reduceIte, reduceCtorEq, reduceAdd, reduceEqDiff, reduceLeDiff, reduceLT, RetP_def, eq_false hc1, eq_false hc2, eq_false hc3, eq_false hc4, eq_true hc5, eq_true hg7]
          · rw [if_neg hc5] at h
            refine SemF.cond rfl ?_
            simp only [gE, ↓gT, ↓reduceIte, reduceCtorEq, reduceAdd, reduceEqDiff, reduceLeDiff, reduceLT, eq_false hc1, eq_false hc2, eq_false hc3, eq_false hc4, eq_false hc5]
            refine SemF.seq rfl ?_
            refine SemF.reg true rfl ?_
            try simp only [gE, ↓gT, ↓reduceIte, reduceCtorEq, reduceAdd, reduceEqDiff, reduceLeDiff, reduceLT, eq_false hc1, eq_false hc2, eq_false hc3, eq_false hc4, eq_false hc5]; (repeat intro (_ : _ ≤ lim))
            by_cases hc9 : p0.K = 4
            · rw [if_pos hc9] at h
              try simp only [gE, ↓gT, ↓reduceIte, reduceCtorEq, reduceAdd, reduceEqDiff, reduceLeDiff, reduceLT, eq_false hc1, eq_false hc2, eq_false hc3, eq_false hc4, eq_false hc5, eq_true hc9]; (repeat intro (_ : _ ≤ lim))
              (repeat intro (_ : _ ≤ lim))
              by_cases hc10 : ((p0.L.length : Nat) : Int) = 2
              · rw [if_pos hc10] at h
                refine SemF.cond rfl ?_
                simp only [gE, ↓gT, ↓reduceIte, reduceCtorEq, reduceAdd, reduceEqDiff, reduceLeDiff, reduceLT, eq_false hc1, eq_false hc2, eq_false hc3, eq_false hc4, eq_false hc5, eq_true hc9, eq_true hc10]
                refine SemF.skip rfl ?_
                simp only [gE, ↓gT, ↓reduceIte, reduceCtorEq, reduceAdd, reduceEqDiff, reduceLeDiff, reduceLT, eq_false hc1, eq_false hc2, eq_false hc3, eq_false hc4, eq_false hc5, eq_true hc9, eq_true hc10]
                refine SemF.seq rfl ?_
                refine SemF.reg true rfl ?_
                try simp only [gE, ↓gT, ↓reduceIte, reduceCtorEq, reduceAdd, reduceEqDiff, reduceLeDiff, reduceLT, eq_false hc1, eq_false hc2, eq_false hc3, eq_false hc4, eq_false hc5, eq_true hc9, eq_true hc10]; (repeat intro (_ : _ ≤ lim))
                obtain ⟨e11, h_e11, h⟩ := bs h
                have m_e11 := ixm (f := Ty.enc) (ix_get h_e11)
                try simp only [gE, ↓gT, ↓reduceIte, reduceCtorEq, reduceAdd, reduceEqDiff, reduceLeDiff, reduceLT, eq_false hc1, eq_false hc2, eq_false hc3, eq_false hc4, eq_false hc5, eq_true hc9, eq_true hc10, eq_true (ix_nn h_e11), m_e11]; (repeat intro (_ : _ ≤ lim))
                obtain ⟨r12, h_r12, h⟩ := bs h
                refine HCp.callE (ih_impl_tyText (e11, (IntKind.i64.wrap (p1 + 1))) r12 h_r12) (by simp only [gE, ↓gT, ↓reduceIte, reduceCtorEq, reduceAdd, reduceEqDiff, reduceLeDiff, reduceLT, eq_false hc1, eq_false hc2, eq_false hc3, eq_false hc4, eq_false hc5, eq_true hc9, eq_true hc10, eq_true (ix_nn h_e11), m_e11]) (by simp only [scT, esT, and_self, true_and, and_true]) (by simp only [scT, esT, and_self, true_and, and_true]) ?_
                try simp only [gE, ↓gT, ↓reduceIte, reduceCtorEq, reduceAdd, reduceEqDiff, reduceLeDiff, reduceLT, eq_false hc1, eq_false hc2, eq_false hc3, eq_false hc4, eq_false hc5, eq_true hc9, eq_true hc10, eq_true (ix_nn h_e11), m_e11]; (repeat intro (_ : _ ≤ lim))
                refine SemF.seq rfl ?_
                refine SemF.reg true rfl ?_
                try simp only [gE, ↓gT, ↓reduceIte, reduceCtorEq, reduceAdd, reduceEqDiff, reduceLeDiff, reduceLT, eq_false hc1, eq_false hc2, eq_false hc3, eq_false hc4, eq_false hc5, eq_true hc9, eq_true hc10, eq_true (ix_nn h_e11), m_e11]; (repeat intro (_ : _ ≤ lim))
                obtain ⟨e13, h_e13, h⟩ := bs h
                have m_e13 := ixm (f := Ty.enc) (ix_get h_e13)
                try simp only [gE, ↓gT, ↓reduceIte, reduceCtorEq, reduceAdd, reduceEqDiff, reduceLeDiff, reduceLT, eq_false hc1, eq_false hc2, eq_false hc3, eq_false hc4, eq_false hc5, eq_true hc9, eq_true hc10, eq_true (ix_nn h_e11), m_e11, eq_true (ix_nn h_e13), m_e13]; (repeat intro (_ : _ ≤ lim))
                obtain ⟨r14, h_r14, h⟩ := bs h
                refine HCp.callE (ih_impl_tyText (e13, (IntKind.i64.wrap (p1 + 1))) r14 h_r14) (by simp only [gE, ↓gT, ↓reduceIte, reduceCtorEq, reduceAdd, reduceEqDiff, reduceLeDiff, reduceLT, eq_false hc1, eq_false hc2, eq_false hc3, eq_false hc4, eq_false hc5, eq_true hc9, eq_true hc10, eq_true (ix_nn h_e11), m_e11, eq_true (ix_nn h_e13), m_e13]) (by simp only [scT, esT, and_self, true_and, and_true]) (by simp only [scT, esT, and_self, true_and, and_true]) ?_
                try simp only [gE, ↓gT, ↓reduceIte, reduceCtorEq, reduceAdd, reduceEqDiff, reduceLeDiff, reduceLT, eq_false hc1, eq_false hc2, eq_false hc3, eq_false hc4, eq_false hc5, eq_true hc9, eq_true hc10, eq_true (ix_nn h_e11), m_e11, eq_true (ix_nn h_e13), m_e13]; (repeat intro (_ : _ ≤ lim))
                refine SemF.seq rfl ?_
                refine SemF.seq rfl ?_
                refine SemF.reg true rfl ?_
                try simp only [gE, ↓gT, ↓reduceIte, reduceCtorEq, reduceAdd, reduceEqDiff, reduceLeDiff, reduceLT, eq_false hc1, eq_false hc2, eq_false hc3, eq_false hc4, eq_false hc5, eq_true hc9, eq_true hc10, eq_true (ix_nn h_e11), m_e11, eq_true (ix_nn h_e13), m_e13]; (repeat intro (_ : _ ≤ lim))
                by_cases hc15 : e11.K = 4
                · rw [if_pos hc15] at h
                  refine SemF.cond rfl ?_
                  simp only [gE, ↓gT, ↓reduceIte, reduceCtorEq, reduceAdd, reduceEqDiff, reduceLeDiff, reduceLT, eq_false hc1, eq_false hc2, eq_false hc3, eq_false hc4, eq_false hc5, eq_true hc9, eq_true hc10, eq_true (ix_nn h_e11), m_e11, eq_true (ix_nn h_e13), m_e13, eq_true hc15]
                  refine SemF.reg true rfl ?_
                  try simp only [gE, ↓gT, ↓reduceIte, reduceCtorEq, reduceAdd, reduceEqDiff, reduceLeDiff, reduceLT, eq_false hc1, eq_false hc2, eq_false hc3, eq_false hc4, eq_false hc5, eq_true hc9, eq_true hc10, eq_true (ix_nn h_e11), m_e11, eq_true (ix_nn h_e13), m_e13, eq_true hc15]; (repeat intro (_ : _ ≤ lim))
                  obtain ⟨u17, h_u17, h⟩ := bs h
                  have hg16 := gd_some h_u17
                  try simp only [gE, ↓gT, ↓reduceIte, reduceCtorEq, reduceAdd, reduceEqDiff, reduceLeDiff, reduceLT, eq_false hc1, eq_false hc2, eq_false hc3, eq_false hc4, eq_false hc5, eq_true hc9, eq_true hc10, eq_true (ix_nn h_e11), m_e11, eq_true (ix_nn h_e13), m_e13, eq_true hc15, eq_true hg16]; (repeat intro (_ : _ ≤ lim))
                  obtain ⟨u19, h_u19, h⟩ := bs h
                  have hg18 := gd_some h_u19
                  try simp only [gE, ↓gT, ↓reduceIte, reduceCtorEq, reduceAdd, reduceEqDiff, reduceLeDiff, reduceLT, eq_false hc1, eq_false hc2, eq_false hc3, eq_false hc4, eq_false hc5, eq_true hc9, eq_true hc10, eq_true (ix_nn h_e11), m_e11, eq_true (ix_nn h_e13), m_e13, eq_true hc15, eq_true hg16, eq_true hg18]; (repeat intro (_ : _ ≤ lim))
                  refine SemF.seq rfl ?_
                  refine SemF.reg true rfl ?_
                  try simp only [gE, ↓gT, ↓reduceIte, reduceCtorEq, reduceAdd, reduceEqDiff, reduceLeDiff, reduceLT, eq_false hc1, eq_false hc2, eq_false hc3, eq_false hc4, eq_false hc5, eq_true hc9, eq_true hc10, eq_true (ix_nn h_e11), m_e11, eq_true (ix_nn h_e13), m_e13, eq_true hc15, eq_true hg16, eq_true hg18]; (repeat intro (_ : _ ≤ lim))
                  obtain ⟨u21, h_u21, h⟩ := bs h
                  have hg20 := gd_some h_u21
                  try simp only [gE, ↓gT, ↓reduceIte, reduceCtorEq, reduceAdd, reduceEqDiff, reduceLeDiff, reduceLT, eq_false hc1, eq_false hc2, eq_false hc3, eq_false hc4, eq_false hc5, eq_true hc9, eq_true hc10, eq_true (ix_nn h_e11), m_e11, eq_true (ix_nn h_e13), m_e13, eq_true hc15, eq_true hg16, eq_true hg18, eq_true hg20]; (repeat intro (_ : _ ≤ lim))
                  obtain ⟨u23, h_u23, h⟩ := bs h
                  have hg22 := gd_some h_u23
                  try simp only [gE, ↓gT, ↓reduceIte, reduceCtorEq, reduceAdd, reduceEqDiff, reduceLeDiff, reduceLT, eq_false hc1, eq_false hc2, eq_false hc3, eq_false hc4, eq_false hc5, eq_true hc9, eq_true hc10, eq_true (ix_nn h_e11), m_e11, eq_true (ix_nn h_e13), m_e13, eq_true hc15, eq_true hg16, eq_true hg18, eq_true hg20, eq_true hg22]; (repeat intro (_ : _ ≤ lim))
                  by_cases hc24 : r12.2 = true
                  · rw [if_pos hc24] at h
                    try simp only [gE, ↓gT, ↓reduceIte, reduceCtorEq, reduceAdd, reduceEqDiff, reduceLeDiff, reduceLT, eq_false hc1, eq_false hc2, eq_false hc3, eq_false hc4, eq_false hc5, eq_true hc9, eq_true hc10, eq_true (ix_nn h_e11), m_e11, eq_true (ix_nn h_e13), m_e13, eq_true hc15, eq_true hg16, eq_true hg18, eq_true hg20, eq_true hg22, hc24]; (repeat intro (_ : _ ≤ lim))
                    refine SemF.ret rfl ?_
                    try simp only [gE, ↓gT, ↓reduceIte, reduceCtorEq, reduceAdd, reduceEqDiff, reduceLeDiff, reduceLT, eq_false hc1, eq_false hc2, eq_false hc3, eq_false hc4, eq_false hc5, eq_true hc9, eq_true hc10, eq_true (ix_nn h_e11), m_e11, eq_true (ix_nn h_e13), m_e13, eq_true hc15, eq_true hg16, eq_true hg18, eq_true hg20, eq_true hg22, hc24]; (repeat intro (_ : _ ≤ lim))
                    obtain rfl := Option.some.inj h
                    simp only [gE, ↓gT, ↓reduceIte, reduceCtorEq, reduceAdd, reduceEqDiff, reduceLeDiff, reduceLT, RetP_def, eq_false hc1, eq_false hc2, eq_false hc3, eq_false hc4, eq_false hc5, eq_true hc9, eq_true hc10, eq_true (ix_nn h_e11), m_e11, eq_true (ix_nn h_e13), m_e13, eq_true hc15, eq_true hg16, eq_true hg18, eq_true hg20, eq_true hg22, hc24]
                  · rw [if_neg hc24] at h
                    replace hc24 := eq_false_of_ne_true hc24
                    try simp only [gE, ↓gT, ↓reduceIte, reduceCtorEq, reduceAdd, reduceEqDiff, reduceLeDiff, reduceLT, eq_false hc1, eq_false hc2, eq_false hc3, eq_false hc4, eq_false hc5, eq_true hc9, eq_true hc10, eq_true (ix_nn h_e11), m_e11, eq_true (ix_nn h_e13), m_e13, eq_true hc15, eq_true hg16, eq_true hg18, eq_true hg20, eq_true hg22, hc24]; (repeat intro (_ : _ ≤ lim))
                    refine SemF.ret rfl ?_
                    try simp only [gE, ↓gT, ↓reduceIte, reduceCtorEq, reduceAdd, reduceEqDiff, reduceLeDiff, reduceLT, eq_false hc1, eq_false hc2, eq_false hc3, eq_false hc4, eq_false hc5, eq_true hc9, eq_true hc10, eq_true (ix_nn h_e11), m_e11, eq_true (ix_nn h_e13), m_e13, eq_true hc15, eq_true hg16, eq_true hg18, eq_true hg20, eq_true hg22, hc24]; (repeat intro (_ : _ ≤ lim))
                    obtain rfl := Option.some.inj h
                    simp only [gE, ↓gT, ↓reduceIte, reduceCtorEq, reduceAdd, reduceEqDiff, reduceLeDiff, reduceLT, RetP_def, eq_false hc1, eq_false hc2, eq_false hc3, eq_false hc4, eq_false hc5, eq_true hc9, eq_true hc10, eq_true (ix_nn h_e11), m_e11, eq_true (ix_nn h_e13), m_e13, eq_true hc15, eq_true hg16, eq_true hg18, eq_true hg20, eq_true hg22, hc24]
                · rw [if_neg hc15] at h
                  refine SemF.cond rfl ?_
                  simp only [gE, ↓gT, ↓reduceIte, reduceCtorEq, reduceAdd, reduceEqDiff, reduceLeDiff, reduceLT, eq_false hc1, eq_false hc2, eq_false hc3, eq_false hc4, eq_false hc5, eq_true hc9, eq_true hc10, eq_true (ix_nn h_e11), m_e11, eq_true (ix_nn h_e13), m_e13, eq_false hc15]
                  refine SemF.skip rfl ?_
                  simp only [gE, ↓gT, ↓reduceIte, reduceCtorEq, reduceAdd, reduceEqDiff, reduceLeDiff, reduceLT, eq_false hc1, eq_false hc2, eq_false hc3, eq_false hc4, eq_false hc5, eq_true hc9, eq_true hc10, eq_true (ix_nn h_e11), m_e11, eq_true (ix_nn h_e13), m_e13, eq_false hc15]
                  refine SemF.seq rfl ?_
                  refine SemF.reg true rfl ?_
                  try simp only [gE, ↓gT, ↓reduceIte, reduceCtorEq, reduceAdd, reduceEqDiff, reduceLeDiff, reduceLT, eq_false hc1, eq_false hc2, eq_false hc3, eq_false hc4, eq_false hc5, eq_true hc9, eq_true hc10, eq_true (ix_nn h_e11), m_e11, eq_true (ix_nn h_e13), m_e13, eq_false hc15]; (repeat intro (_ : _ ≤ lim))
                  obtain ⟨u26, h_u26, h⟩ := bs h
                  have hg25 := gd_some h_u26
                  try simp only [gE, ↓gT, ↓reduceIte, reduceCtorEq, reduceAdd, reduceEqDiff, reduceLeDiff, reduceLT, eq_false hc1, eq_false hc2, eq_false hc3, eq_false hc4, eq_false hc5, eq_true hc9, eq_true hc10, eq_true (ix_nn h_e11), m_e11, eq_true (ix_nn h_e13), m_e13, eq_false hc15, eq_true hg25]; (repeat intro (_ : _ ≤ lim))
                  obtain ⟨u28, h_u28, h⟩ := bs h
                  have hg27 := gd_some h_u28
                  try simp only [gE, ↓gT, ↓reduceIte, reduceCtorEq, reduceAdd, reduceEqDiff, reduceLeDiff, reduceLT, eq_false hc1, eq_false hc2, eq_false hc3, eq_false hc4, eq_false hc5, eq_true hc9, eq_true hc10, eq_true (ix_nn h_e11), m_e11, eq_true (ix_nn h_e13), m_e13, eq_false hc15, eq_true hg25, eq_true hg27]; (repeat intro (_ : _ ≤ lim))
                  by_cases hc29 : r12.2 = true
                  · rw [if_pos hc29] at h
                    try simp only [gE, ↓gT, ↓reduceIte, reduceCtorEq, reduceAdd, reduceEqDiff, reduceLeDiff, reduceLT, eq_false hc1, eq_false hc2, eq_false hc3, eq_false hc4, eq_false hc5, eq_true hc9, eq_true hc10, eq_true (ix_nn h_e11), m_e11, eq_true (ix_nn h_e13), m_e13, eq_false hc15, eq_true hg25, eq_true hg27, hc29]; (repeat intro (_ : _ ≤ lim))
                    refine SemF.ret rfl ?_
                    try simp only [gE, ↓gT, ↓reduceIte, reduceCtorEq, reduceAdd, reduceEqDiff, reduceLeDiff, reduceLT, eq_false hc1, eq_false hc2, eq_false hc3, eq_false hc4, eq_false hc5, eq_true hc9, eq_true hc10, eq_true (ix_nn h_e11), m_e11, eq_true (ix_nn h_e13), m_e13, eq_false hc15, eq_true hg25, eq_true hg27, hc29]; (repeat intro (_ : _ ≤ lim))
                    obtain rfl := Option.some.inj h
                    simp only [gE, ↓gT, ↓reduceIte, reduceCtorEq, reduceAdd, reduceEqDiff, reduceLeDiff, reduceLT, RetP_def, eq_false hc1, eq_false hc2, eq_false hc3, eq_false hc4, eq_false hc5, eq_true hc9, eq_true hc10, eq_true (ix_nn h_e11), m_e11, eq_true (ix_nn h_e13), m_e13, eq_false hc15, eq_true hg25, eq_true hg27, hc29]
                  · rw [if_neg hc29] at h
                    replace hc29 := eq_false_of_ne_true hc29
                    try simp only [gE, ↓gT, ↓reduceIte, reduceCtorEq, reduceAdd, reduceEqDiff, reduceLeDiff, reduceLT, eq_false hc1, eq_false hc2, eq_false hc3, eq_false hc4, eq_false hc5, eq_true hc9, eq_true hc10, eq_true (ix_nn h_e11), m_e11, eq_true (ix_nn h_e13), m_e13, eq_false hc15, eq_true hg25, eq_true hg27, hc29]; (repeat intro (_ : _ ≤ lim))
                    refine SemF.ret rfl ?_
                    try simp only [gE, ↓gT, ↓reduceIte, reduceCtorEq, reduceAdd, reduceEqDiff, reduceLeDiff, reduceLT, eq_false hc1, eq_false hc2, eq_false hc3, eq_false hc4, eq_false hc5, eq_true hc9, eq_true hc10, eq_true (ix_nn h_e11), m_e11, eq_true (ix_nn h_e13), m_e13, eq_false hc15, eq_true hg25, eq_true hg27, hc29]; (repeat intro (_ : _ ≤ lim))
                    obtain rfl := Option.some.inj h
                    simp only [gE, ↓gT, ↓reduceIte, reduceCtorEq, reduceAdd, reduceEqDiff, reduceLeDiff, reduceLT, RetP_def, eq_false hc1, eq_false hc2, eq_false hc3, eq_false hc4, eq_false hc5, eq_true hc9, eq_true hc10, eq_true (ix_nn h_e11), m_e11, eq_true (ix_nn h_e13), m_e13, eq_false hc15, eq_true hg25, eq_true hg27, hc29]
              · rw [if_neg hc10] at h
                refine SemF.cond rfl ?_
                simp only [gE, ↓gT, ↓reduceIte, reduceCtorEq, reduceAdd, reduceEqDiff, reduceLeDiff, reduceLT, eq_false hc1, eq_false hc2, eq_false hc3, eq_false hc4, eq_false hc5, eq_true hc9, eq_false hc10]
                refine SemF.seq rfl ?_
                refine SemF.reg true rfl ?_
                try simp only [gE, ↓gT, ↓reduceIte, reduceCtorEq, reduceAdd, reduceEqDiff, reduceLeDiff, reduceLT, eq_false hc1, eq_false hc2, eq_false hc3, eq_false hc4, eq_false hc5, eq_true hc9, eq_false hc10]; (repeat intro (_ : _ ≤ lim))
                refine SemF.ret rfl ?_
                try simp only [gE, ↓gT, ↓reduceIte, reduceCtorEq, reduceAdd, reduceEqDiff, reduceLeDiff, reduceLT, eq_false hc1, eq_false hc2, eq_false hc3, eq_false hc4, eq_false hc5, eq_true hc9, eq_false hc10]; (repeat intro (_ : _ ≤ lim))
                obtain rfl := Option.some.inj h
                simp only [gE, ↓gT, ↓reduceIte, reduceCtorEq, reduceAdd, reduceEqDiff, reduceLeDiff, reduceLT, RetP_def, eq_false hc1, eq_false hc2, eq_false hc3, eq_false hc4, eq_false hc5, eq_true hc9, eq_false hc10]
            · rw [if_neg hc9] at h
              try simp only [gE, ↓gT, ↓reduceIte, reduceCtorEq, reduceAdd, reduceEqDiff, reduceLeDiff, reduceLT, eq_false hc1, eq_false hc2, eq_false hc3, eq_false hc4, eq_false hc5, eq_false hc9]; (repeat intro (_ : _ ≤ lim))
              refine SemF.cond rfl ?_
              simp only [gE, ↓gT, ↓reduceIte, reduceCtorEq, reduceAdd, reduceEqDiff, reduceLeDiff, reduceLT, eq_false hc1, eq_false hc2, eq_false hc3, eq_false hc4, eq_false hc5, eq_false hc9]
              refine SemF.seq rfl ?_
              refine SemF.reg true rfl ?_
              try simp only [gE, ↓gT, ↓reduceIte, reduceCtorEq, reduceAdd, reduceEqDiff, reduceLeDiff, reduceLT, eq_false hc1, eq_false hc2, eq_false hc3, eq_false hc4, eq_false hc5, eq_false hc9]; (repeat intro (_ : _ ≤ lim))
              refine SemF.ret rfl ?_
              try simp only [gE, ↓gT, ↓reduceIte, reduceCtorEq, reduceAdd, reduceEqDiff, reduceLeDiff, reduceLT, eq_false hc1, eq_false hc2, eq_false hc3, eq_false hc4, eq_false hc5, eq_false hc9]; (repeat intro (_ : _ ≤ lim))
              obtain rfl := Option.some.inj h
              simp only [gE, ↓gT, ↓reduceIte, reduceCtorEq, reduceAdd, reduceEqDiff, reduceLeDiff, reduceLT, RetP_def, eq_false hc1, eq_false hc2, eq_false hc3, eq_false hc4, eq_false hc5, eq_false hc9]
theorem impl_tyText_all : (∀ (x : (Ty × Int)) (r : (ByteArray × Bool)), M.impl_tyText x = some r → HCp P F.impl_tyText [(Ty.enc x.1), (.int .i64 x.2)] (HV.tup [(HV.str r.1), (HV.bool r.2)])) := by
  refine M.impl_tyText.partial_correctness (motive := fun x r => HCp P F.impl_tyText [(Ty.enc x.1), (.int .i64 x.2)] (HV.tup [(HV.str r.1), (HV.bool r.2)])) ?_
  · exact fun f_impl_tyText ih_impl_tyText x r h => K.impl_tyText_step f_impl_tyText ih_impl_tyText x r h
theorem impl_tyText : (∀ (x : (Ty × Int)) (r : (ByteArray × Bool)), M.impl_tyText x = some r → HCp P F.impl_tyText [(Ty.enc x.1), (.int .i64 x.2)] (HV.tup [(HV.str r.1), (HV.bool r.2)])) := K.impl_tyText_all
theorem impl_TyText : ∀ (x : Ty) (r : ByteArray), M.impl_TyText x = some r → HCp P F.impl_TyText [(Ty.enc x)] (HV.str r) := by
  intro x r h
  revert h; revert x; intro p0 h
  unfold M.impl_TyText at h
  try dsimp only at h
  refine HCp.mkF S.impl_TyText (by simp [H.impl_TyText]) (by simp only [scT, esT, and_self, true_and, and_true]) ?_
  simp only [gE, ↓gT, ↓reduceIte, reduceCtorEq, reduceAdd, reduceEqDiff, reduceLeDiff, reduceLT, H.impl_TyText]
  refine SemF.seq rfl ?_
  refine SemF.reg true rfl ?_
  try simp only [gE, ↓gT, ↓reduceIte, reduceCtorEq, reduceAdd, reduceEqDiff, reduceLeDiff, reduceLT]; (repeat intro (_ : _ ≤ lim))
  refine SemF.seq rfl ?_
  refine SemF.reg true rfl ?_
  try simp only [gE, ↓gT, ↓reduceIte, reduceCtorEq, reduceAdd, reduceEqDiff, reduceLeDiff, reduceLT]; (repeat intro (_ : _ ≤ lim))
  obtain ⟨r1, h_r1, h⟩ := bs h
  refine HCp.callE (K.impl_tyText (p0, 1) r1 h_r1) (by simp only [gE, ↓gT, ↓reduceIte, reduceCtorEq, reduceAdd, reduceEqDiff, reduceLeDiff, reduceLT]) (by simp only [scT, esT, and_self, true_and, and_true]) (by simp only [scT, esT, and_self, true_and, and_true]) ?_
  try simp only [gE, ↓gT, ↓reduceIte, reduceCtorEq, reduceAdd, reduceEqDiff, reduceLeDiff, reduceLT]; (repeat intro (_ : _ ≤ lim))
  refine SemF.seq rfl ?_
  refine SemF.seq rfl ?_
  refine SemF.reg true rfl ?_
  try simp only [gE, ↓gT, ↓reduceIte, reduceCtorEq, reduceAdd, reduceEqDiff, reduceLeDiff, reduceLT]; (repeat intro (_ : _ ≤ lim))
  by_cases hc2 : r1.2 = true
  · rw [if_pos hc2] at h
    refine SemF.cond rfl ?_
    simp only [gE, ↓gT, ↓reduceIte, reduceCtorEq, reduceAdd, reduceEqDiff, reduceLeDiff, reduceLT, hc2]
    refine SemF.skip rfl ?_
    simp only [gE, ↓gT, ↓reduceIte, reduceCtorEq, reduceAdd, reduceEqDiff, reduceLeDiff, reduceLT, hc2]
    refine SemF.seq rfl ?_
    refine SemF.reg true rfl ?_
    try simp only [gE, ↓gT, ↓reduceIte, reduceCtorEq, reduceAdd, reduceEqDiff, reduceLeDiff, reduceLT, hc2]; (repeat intro (_ : _ ≤ lim))
    refine SemF.ret rfl ?_
    try simp only [gE, ↓gT, ↓reduceIte, reduceCtorEq, reduceAdd, reduceEqDiff, reduceLeDiff, reduceLT, hc2]; (repeat intro (_ : _ ≤ lim))
    obtain rfl := Option.some.inj h
    simp only [gE, ↓gT, ↓reduceIte, reduceCtorEq, reduceAdd, reduceEqDiff, reduceLeDiff, reduceLT, RetP_def, hc2]
  · rw [if_neg hc2] at h
    replace hc2 := eq_false_of_ne_true hc2
    refine SemF.cond rfl ?_
    simp only [gE, ↓gT, ↓reduceIte, reduceCtorEq, reduceAdd, reduceEqDiff, reduceLeDiff, reduceLT, hc2]
    refine SemF.seq rfl ?_
    refine SemF.reg true rfl ?_
    try simp only [gE, ↓gT, ↓reduceIte, reduceCtorEq, reduceAdd, reduceEqDiff, reduceLeDiff, reduceLT, hc2]; (repeat intro (_ : _ ≤ lim))
    refine SemF.ret rfl ?_
    try simp only [gE, ↓gT, ↓reduceIte, reduceCtorEq, reduceAdd, reduceEqDiff, reduceLeDiff, reduceLT, hc2]; (repeat intro (_ : _ ≤ lim))
    obtain rfl := Option.some.inj h
    simp only [gE, ↓gT, ↓reduceIte, reduceCtorEq, reduceAdd, reduceEqDiff, reduceLeDiff, reduceLT, RetP_def, hc2]
theorem laws_szTy_step (f_laws_szTyS : ((List Ty) × Int) → Option Int) (ih_laws_szTyS : ∀ (x : ((List Ty) × Int)) (r : Int), f_laws_szTyS x = some r → HCp P F.laws_szTyS [(.sl (List.map Ty.enc x.1)), (.int .i64 x.2)] (HV.int .i64 r)) (x : (Ty × Int)) (r : Int) (h : (if (IntKind.i64.wrap (x.2 - ((x.1.S.size : Nat) : Int))) < 0 then some (-1) else
    (f_laws_szTyS (x.1.L, (IntKind.i64.wrap (x.2 - ((x.1.S.size : Nat) : Int)))) >>= fun r2 =>
    (if r2 < 0 then some (-1) else
    some r2))) = some r) : HCp P F.laws_szTy [(Ty.enc x.1), (.int .i64 x.2)] (HV.int .i64 r) := by
  obtain ⟨p0, p1⟩ := x
  try dsimp only at h
  refine HCp.mkF S.laws_szTy (by simp [H.laws_szTy]) (by simp only [scT, esT, and_self, true_and, and_true]) ?_
  simp only [gE, ↓gT, ↓reduceIte, reduceCtorEq, reduceAdd, reduceEqDiff, reduceLeDiff, reduceLT, H.laws_szTy]
  refine SemF.seq rfl ?_
  refine SemF.reg true rfl ?_
  try simp only [gE, ↓gT, ↓reduceIte, reduceCtorEq, reduceAdd, reduceEqDiff, reduceLeDiff, reduceLT]; (repeat intro (_ : _ ≤ lim))
  refine SemF.seq rfl ?_
  refine SemF.reg true rfl ?_
  try simp only [gE, ↓gT, ↓reduceIte, reduceCtorEq, reduceAdd, reduceEqDiff, reduceLeDiff, reduceLT]; (repeat intro (_ : _ ≤ lim))
  (repeat intro (_ : _ ≤ lim))
  refine SemF.seq rfl ?_
  refine SemF.seq rfl ?_
  refine SemF.reg true rfl ?_
  try simp only [gE, ↓gT, ↓reduceIte, reduceCtorEq, reduceAdd, reduceEqDiff, reduceLeDiff, reduceLT]; (repeat intro (_ : _ ≤ lim))
  by_cases hc1 : (IntKind.i64.wrap (p1 - ((p0.S.size : Nat) : Int))) < 0
  · rw [if_pos hc1] at h
    refine SemF.cond rfl ?_
    simp only [gE, ↓gT, ↓reduceIte, reduceCtorEq, reduceAdd, reduceEqDiff, reduceLeDiff, reduceLT, eq_true hc1]
    refine SemF.seq rfl ?_
    refine SemF.reg true rfl ?_
    try simp only [gE, ↓gT, ↓reduceIte, reduceCtorEq, reduceAdd, reduceEqDiff, reduceLeDiff, reduceLT, eq_true hc1]; (repeat intro (_ : _ ≤ lim))
    refine SemF.ret rfl ?_
    try simp only [gE, ↓gT, ↓reduceIte, reduceCtorEq, reduceAdd, reduceEqDiff, reduceLeDiff, reduceLT, eq_true hc1]; (repeat intro (_ : _ ≤ lim))
    obtain rfl := Option.some.inj h
    simp only [gE, ↓gT, ↓reduceIte, reduceCtorEq, reduceAdd, reduceEqDiff, reduceLeDiff, reduceLT, RetP_def, eq_true hc1]
  · rw [if_neg hc1] at h
    refine SemF.cond rfl ?_
    simp only [gE, ↓gT, ↓reduceIte, reduceCtorEq, reduceAdd, reduceEqDiff, reduceLeDiff, reduceLT, eq_false hc1]
    refine SemF.skip rfl ?_
    simp only [gE, ↓gT, ↓reduceIte, reduceCtorEq, reduceAdd, reduceEqDiff, reduceLeDiff, reduceLT, eq_false hc1]
    refine SemF.seq rfl ?_
    refine SemF.reg true rfl ?_
    try simp only [gE, ↓gT, ↓reduceIte, reduceCtorEq, reduceAdd, reduceEqDiff, reduceLeDiff, reduceLT, eq_false hc1]; (repeat intro (_ : _ ≤ lim))
    obtain ⟨r2, h_r2, h⟩ := bs h
    refine HCp.callE (ih_laws_szTyS (p0.L, (IntKind.i64.wrap (p1 - ((p0.S.size : Nat) : Int)))) r2 h_r2) (by simp only [gE, ↓gT, ↓reduceIte, reduceCtorEq, reduceAdd, reduceEqDiff, reduceLeDiff, reduceLT, eq_false hc1]) (by simp only [scT, esT, and_self, true_and, and_true]) (by simp only [scT, esT, and_self, true_and, and_true]) ?_
    try simp only [gE, ↓gT, ↓reduceIte, reduceCtorEq, reduceAdd, reduceEqDiff, reduceLeDiff, reduceLT, eq_false hc1]; (repeat intro (_ : _ ≤ lim))
    refine SemF.seq rfl ?_
    refine SemF.seq rfl ?_
    refine SemF.reg true rfl ?_
    try simp only [gE, ↓gT, ↓reduceIte, reduceCtorEq, reduceAdd, reduceEqDiff, reduceLeDiff, reduceLT, eq_false hc1]; (repeat intro (_ : _ ≤ lim))
    by_cases hc3 : r2 < 0
    · rw [if_pos hc3] at h
      refine SemF.cond rfl ?_
      simp only [gE, ↓gT, ↓reduceIte, reduceCtorEq, reduceAdd, reduceEqDiff, reduceLeDiff, reduceLT, eq_false hc1, eq_true hc3]
      refine SemF.seq rfl ?_
      refine SemF.reg true rfl ?_
      try simp only [gE, ↓gT, ↓reduceIte, reduceCtorEq, reduceAdd, reduceEqDiff, reduceLeDiff, reduceLT, eq_false hc1, eq_true hc3]; (repeat intro (_ : _ ≤ lim))
      refine SemF.ret rfl ?_
      try simp only [gE, ↓gT, ↓reduceIte, reduceCtorEq, reduceAdd, reduceEqDiff, reduceLeDiff, reduceLT, eq_false hc1, eq_true hc3]; (repeat intro (_ : _ ≤ lim))
      obtain rfl := Option.some.inj h
      simp only [gE, ↓gT, ↓reduceIte, reduceCtorEq, reduceAdd, reduceEqDiff, reduceLeDiff, reduceLT, RetP_def, eq_false hc1, eq_true hc3]
    · rw [if_neg hc3] at h
      refine SemF.cond rfl ?_
      simp only [gE, ↓gT, ↓reduceIte, reduceCtorEq, reduceAdd, reduceEqDiff, reduceLeDiff, reduceLT, eq_false hc1, eq_false hc3]
      refine SemF.skip rfl ?_
      simp only [gE, ↓gT, ↓reduceIte, reduceCtorEq, reduceAdd, reduceEqDiff, reduceLeDiff, reduceLT, eq_false hc1, eq_false hc3]
      refine SemF.seq rfl ?_
      refine SemF.reg true rfl ?_
      try simp only [gE, ↓gT, ↓reduceIte, reduceCtorEq, reduceAdd, reduceEqDiff, reduceLeDiff, reduceLT, eq_false hc1, eq_false hc3]; (repeat intro (_ : _ ≤ lim))
      refine SemF.ret rfl ?_
      try simp only [gE, ↓gT, ↓reduceIte, reduceCtorEq, reduceAdd, reduceEqDiff, reduceLeDiff, reduceLT, eq_false hc1, eq_false hc3]; (repeat intro (_ : _ ≤ lim))
      obtain rfl := Option.some.inj h
      simp only [gE, ↓gT, ↓reduceIte, reduceCtorEq, reduceAdd, reduceEqDiff, reduceLeDiff, reduceLT, RetP_def, eq_false hc1, eq_false hc3]
end K
end W
