/- Copies lie in blocks of their own; marks. -/
import Derived.Test.YtoojgahbfpdhgaaNLawa
import Derived.Test.YtoojgahbfpdhgaaHLZ
import Derived.KernelRfl
import Derived.Test.YtoojgahbfpdhgaaHLS
import Derived.Deep.RegionHeld3
set_option linter.unusedSimpArgs false
set_option linter.unusedVariables false
set_option linter.unusedSectionVars false
section
namespace W
set_option linter.unusedVariables false
set_option maxRecDepth 100000
set_option maxHeartbeats 4000000
namespace Q
open Go HL HL.X HL.Y Go.RowKit
theorem box2 {w : World} {b : Nat} {a0 a1 : Value} {t : TypeId} (h : w.heap[b]? = some (.cells #[a0, a1] t (0, 0))) : w.cell? ⟨b, 0, none⟩ = some a0 ∧ w.cell? ⟨b, 1, none⟩ = some a1 :=
  ⟨cell_at h rfl, cell_at h rfl⟩
theorem box4 {w : World} {b : Nat} {a0 a1 a2 a3 : Value} {t : TypeId} (h : w.heap[b]? = some (.cells #[a0, a1, a2, a3] t (0, 0))) : w.cell? ⟨b, 0, none⟩ = some a0 ∧ w.cell? ⟨b, 1, none⟩ = some a1 ∧ w.cell? ⟨b, 2, none⟩ = some a2 ∧ w.cell? ⟨b, 3, none⟩ = some a3 :=
  ⟨cell_at h rfl, cell_at h rfl, cell_at h rfl, cell_at h rfl⟩
theorem box6 {w : World} {b : Nat} {a0 a1 a2 a3 a4 a5 : Value} {t : TypeId} (h : w.heap[b]? = some (.cells #[a0, a1, a2, a3, a4, a5] t (0, 0))) : w.cell? ⟨b, 0, none⟩ = some a0 ∧ w.cell? ⟨b, 1, none⟩ = some a1 ∧ w.cell? ⟨b, 2, none⟩ = some a2 ∧ w.cell? ⟨b, 3, none⟩ = some a3 ∧ w.cell? ⟨b, 4, none⟩ = some a4 ∧ w.cell? ⟨b, 5, none⟩ = some a5 :=
  ⟨cell_at h rfl, cell_at h rfl, cell_at h rfl, cell_at h rfl, cell_at h rfl, cell_at h rfl⟩
theorem box8 {w : World} {b : Nat} {a0 a1 a2 a3 a4 a5 a6 a7 : Value} {t : TypeId} (h : w.heap[b]? = some (.cells #[a0, a1, a2, a3, a4, a5, a6, a7] t (0, 0))) : w.cell? ⟨b, 0, none⟩ = some a0 ∧ w.cell? ⟨b, 1, none⟩ = some a1 ∧ w.cell? ⟨b, 2, none⟩ = some a2 ∧ w.cell? ⟨b, 3, none⟩ = some a3 ∧ w.cell? ⟨b, 4, none⟩ = some a4 ∧ w.cell? ⟨b, 5, none⟩ = some a5 ∧ w.cell? ⟨b, 6, none⟩ = some a6 ∧ w.cell? ⟨b, 7, none⟩ = some a7 :=
  ⟨cell_at h rfl, cell_at h rfl, cell_at h rfl, cell_at h rfl, cell_at h rfl, cell_at h rfl, cell_at h rfl, cell_at h rfl⟩
theorem box9 {w : World} {b : Nat} {a0 a1 a2 a3 a4 a5 a6 a7 a8 : Value} {t : TypeId} (h : w.heap[b]? = some (.cells #[a0, a1, a2, a3, a4, a5, a6, a7, a8] t (0, 0))) : w.cell? ⟨b, 0, none⟩ = some a0 ∧ w.cell? ⟨b, 1, none⟩ = some a1 ∧ w.cell? ⟨b, 2, none⟩ = some a2 ∧ w.cell? ⟨b, 3, none⟩ = some a3 ∧ w.cell? ⟨b, 4, none⟩ = some a4 ∧ w.cell? ⟨b, 5, none⟩ = some a5 ∧ w.cell? ⟨b, 6, none⟩ = some a6 ∧ w.cell? ⟨b, 7, none⟩ = some a7 ∧ w.cell? ⟨b, 8, none⟩ = some a8 :=
  ⟨cell_at h rfl, cell_at h rfl, cell_at h rfl, cell_at h rfl, cell_at h rfl, cell_at h rfl, cell_at h rfl, cell_at h rfl, cell_at h rfl⟩
theorem _root_.W.Ty.encp (t : Ty) : t.enc = .agg [.int .i64 t.K, .str t.S, .int .i64 t.N, .sl (t.L.map Ty.enc)] := by
  cases t
  rw [Ty.enc]
  rfl
theorem C_Ty.flat (t : Ty) : ∀ c ∈ t.enc.cells, c.flat = true := by
  rw [Ty.encp]
  simp [HV.cells, HV.flat]
theorem D_Ty {B : Nat} {w : World} {us : List Value} {t : Ty} (h : D B w (.vals us t.enc.cells)) : ∃ v3, us = [.int .i64 t.K, .string t.S, .int .i64 t.N, v3] ∧ t.S.size ≤ lim ∧ D B w (.val v3 (.sl (t.L.map Ty.enc))) := by
  rw [Ty.encp] at h
  cases h with | vcons a0 h =>
  cases h with | vcons a1 h =>
  cases h with | vcons a2 h =>
  cases h with | vcons a3 h =>
  cases h
  cases a0
  cases a1 with | str s1 =>
  cases a2
  exact ⟨_, rfl, s1, a3⟩
theorem Dv_Ty {B : Nat} {w : World} {v : Value} {t : Ty} (h : D B w (.val v t.enc)) : ∃ us : List Value, v = .agg us.toArray ∧ D B w (.vals us t.enc.cells) := by
  have e : t.enc = .agg t.enc.cells := by rw [Ty.encp]; rfl
  rw [e] at h
  cases h with
  | agg hf h => exact ⟨_, rfl, h⟩
theorem Da_Ty {B : Nat} {w : World} {us : List Value} {t : Ty} (h : D B w (.vals us t.enc.cells)) : D B w (.val (.agg us.toArray) t.enc) := by
  have e : t.enc = .agg t.enc.cells := by rw [Ty.encp]; rfl
  have := R.agg (C_Ty.flat t) h
  rw [← e] at this
  exact this
theorem TJ_Ty {w : World} {lo hi : Nat} {us : List Value} {t : Ty} (h : TJ w lo hi us t.enc.cells) : ∃ b3 m3, us = [.int .i64 t.K, .string t.S, .int .i64 t.N, .slice (some ⟨b3, 0, none⟩) t.L.length t.L.length] ∧ TJ w lo m3 [.slice (some ⟨b3, 0, none⟩) t.L.length t.L.length] [.sl (t.L.map Ty.enc)] ∧ m3 ≤ hi := by
  rw [Ty.encp] at h
  cases h with | int h =>
  cases h with | str _ h =>
  cases h with | int h =>
  cases h with | sl hb3 hn3 hl3 hu3 hf3 hc3 hk3 h3 h =>
  have q3 := TJ.sl hb3 hn3 hl3 hu3 hf3 hc3 hk3 h3 (.nil (Nat.le_refl _))
  rw [List.length_map] at hn3
  subst hn3
  cases h with | nil h =>
  exact ⟨_, _, rfl, q3, h⟩
theorem len_Ty {l : List Ty} : ∀ x ∈ l.map Ty.enc, x.cells.length = 4 := fun x hx => by
  obtain ⟨t, _, rfl⟩ := List.mem_map.1 hx
  exact Ty.len t
theorem _root_.W.Con.encp (t : Con) : t.enc = .agg [.str t.Name, .sl (t.Args.map Ty.enc)] := by
  cases t
  rw [Con.enc]
  rfl
theorem C_Con.flat (t : Con) : ∀ c ∈ t.enc.cells, c.flat = true := by
  rw [Con.encp]
  simp [HV.cells, HV.flat]
theorem D_Con {B : Nat} {w : World} {us : List Value} {t : Con} (h : D B w (.vals us t.enc.cells)) : ∃ v1, us = [.string t.Name, v1] ∧ t.Name.size ≤ lim ∧ D B w (.val v1 (.sl (t.Args.map Ty.enc))) := by
  rw [Con.encp] at h
  cases h with | vcons a0 h =>
  cases h with | vcons a1 h =>
  cases h
  cases a0 with | str s0 =>
  exact ⟨_, rfl, s0, a1⟩
theorem Dv_Con {B : Nat} {w : World} {v : Value} {t : Con} (h : D B w (.val v t.enc)) : ∃ us : List Value, v = .agg us.toArray ∧ D B w (.vals us t.enc.cells) := by
  have e : t.enc = .agg t.enc.cells := by rw [Con.encp]; rfl
  rw [e] at h
  cases h with
  | agg hf h => exact ⟨_, rfl, h⟩
theorem Da_Con {B : Nat} {w : World} {us : List Value} {t : Con} (h : D B w (.vals us t.enc.cells)) : D B w (.val (.agg us.toArray) t.enc) := by
  have e : t.enc = .agg t.enc.cells := by rw [Con.encp]; rfl
  have := R.agg (C_Con.flat t) h
  rw [← e] at this
  exact this
theorem TJ_Con {w : World} {lo hi : Nat} {us : List Value} {t : Con} (h : TJ w lo hi us t.enc.cells) : ∃ b1 m1, us = [.string t.Name, .slice (some ⟨b1, 0, none⟩) t.Args.length t.Args.length] ∧ TJ w lo m1 [.slice (some ⟨b1, 0, none⟩) t.Args.length t.Args.length] [.sl (t.Args.map Ty.enc)] ∧ m1 ≤ hi := by
  rw [Con.encp] at h
  cases h with | str _ h =>
  cases h with | sl hb1 hn1 hl1 hu1 hf1 hc1 hk1 h1 h =>
  have q1 := TJ.sl hb1 hn1 hl1 hu1 hf1 hc1 hk1 h1 (.nil (Nat.le_refl _))
  rw [List.length_map] at hn1
  subst hn1
  cases h with | nil h =>
  exact ⟨_, _, rfl, q1, h⟩
theorem len_Con {l : List Con} : ∀ x ∈ l.map Con.enc, x.cells.length = 2 := fun x hx => by
  obtain ⟨t, _, rfl⟩ := List.mem_map.1 hx
  exact Con.len t
theorem _root_.W.Data.encp (t : Data) : t.enc = .agg [.str t.Name, .sl (t.Cons.map Con.enc)] := by
  cases t
  rw [Data.enc]
  rfl
theorem C_Data.flat (t : Data) : ∀ c ∈ t.enc.cells, c.flat = true := by
  rw [Data.encp]
  simp [HV.cells, HV.flat]
theorem D_Data {B : Nat} {w : World} {us : List Value} {t : Data} (h : D B w (.vals us t.enc.cells)) : ∃ v1, us = [.string t.Name, v1] ∧ t.Name.size ≤ lim ∧ D B w (.val v1 (.sl (t.Cons.map Con.enc))) := by
  rw [Data.encp] at h
  cases h with | vcons a0 h =>
  cases h with | vcons a1 h =>
  cases h
  cases a0 with | str s0 =>
  exact ⟨_, rfl, s0, a1⟩
theorem Dv_Data {B : Nat} {w : World} {v : Value} {t : Data} (h : D B w (.val v t.enc)) : ∃ us : List Value, v = .agg us.toArray ∧ D B w (.vals us t.enc.cells) := by
  have e : t.enc = .agg t.enc.cells := by rw [Data.encp]; rfl
  rw [e] at h
  cases h with
  | agg hf h => exact ⟨_, rfl, h⟩
theorem Da_Data {B : Nat} {w : World} {us : List Value} {t : Data} (h : D B w (.vals us t.enc.cells)) : D B w (.val (.agg us.toArray) t.enc) := by
  have e : t.enc = .agg t.enc.cells := by rw [Data.encp]; rfl
  have := R.agg (C_Data.flat t) h
  rw [← e] at this
  exact this
theorem TJ_Data {w : World} {lo hi : Nat} {us : List Value} {t : Data} (h : TJ w lo hi us t.enc.cells) : ∃ b1 m1, us = [.string t.Name, .slice (some ⟨b1, 0, none⟩) t.Cons.length t.Cons.length] ∧ TJ w lo m1 [.slice (some ⟨b1, 0, none⟩) t.Cons.length t.Cons.length] [.sl (t.Cons.map Con.enc)] ∧ m1 ≤ hi := by
  rw [Data.encp] at h
  cases h with | str _ h =>
  cases h with | sl hb1 hn1 hl1 hu1 hf1 hc1 hk1 h1 h =>
  have q1 := TJ.sl hb1 hn1 hl1 hu1 hf1 hc1 hk1 h1 (.nil (Nat.le_refl _))
  rw [List.length_map] at hn1
  subst hn1
  cases h with | nil h =>
  exact ⟨_, _, rfl, q1, h⟩
theorem len_Data {l : List Data} : ∀ x ∈ l.map Data.enc, x.cells.length = 2 := fun x hx => by
  obtain ⟨t, _, rfl⟩ := List.mem_map.1 hx
  exact Data.len t
theorem _root_.W.Exp.encp (t : Exp) : t.enc = .agg [.int .i64 t.K, .str t.S, .int .i64 t.N, .sl (t.L.map Exp.enc), .sl (t.Decs.map Dec.enc), .sl (t.Alts.map Alt.enc)] := by
  cases t
  rw [Exp.enc]
  rfl
theorem C_Exp.flat (t : Exp) : ∀ c ∈ t.enc.cells, c.flat = true := by
  rw [Exp.encp]
  simp [HV.cells, HV.flat]
theorem D_Exp {B : Nat} {w : World} {us : List Value} {t : Exp} (h : D B w (.vals us t.enc.cells)) : ∃ v3 v4 v5, us = [.int .i64 t.K, .string t.S, .int .i64 t.N, v3, v4, v5] ∧ t.S.size ≤ lim ∧ D B w (.val v3 (.sl (t.L.map Exp.enc))) ∧ D B w (.val v4 (.sl (t.Decs.map Dec.enc))) ∧ D B w (.val v5 (.sl (t.Alts.map Alt.enc))) := by
  rw [Exp.encp] at h
  cases h with | vcons a0 h =>
  cases h with | vcons a1 h =>
  cases h with | vcons a2 h =>
  cases h with | vcons a3 h =>
  cases h with | vcons a4 h =>
  cases h with | vcons a5 h =>
  cases h
  cases a0
  cases a1 with | str s1 =>
  cases a2
  exact ⟨_, _, _, rfl, s1, a3, a4, a5⟩
theorem Dv_Exp {B : Nat} {w : World} {v : Value} {t : Exp} (h : D B w (.val v t.enc)) : ∃ us : List Value, v = .agg us.toArray ∧ D B w (.vals us t.enc.cells) := by
  have e : t.enc = .agg t.enc.cells := by rw [Exp.encp]; rfl
  rw [e] at h
  cases h with
  | agg hf h => exact ⟨_, rfl, h⟩
theorem Da_Exp {B : Nat} {w : World} {us : List Value} {t : Exp} (h : D B w (.vals us t.enc.cells)) : D B w (.val (.agg us.toArray) t.enc) := by
  have e : t.enc = .agg t.enc.cells := by rw [Exp.encp]; rfl
  have := R.agg (C_Exp.flat t) h
  rw [← e] at this
  exact this
theorem TJ_Exp {w : World} {lo hi : Nat} {us : List Value} {t : Exp} (h : TJ w lo hi us t.enc.cells) : ∃ b3 m3 b4 m4 b5 m5, us = [.int .i64 t.K, .string t.S, .int .i64 t.N, .slice (some ⟨b3, 0, none⟩) t.L.length t.L.length, .slice (some ⟨b4, 0, none⟩) t.Decs.length t.Decs.length, .slice (some ⟨b5, 0, none⟩) t.Alts.length t.Alts.length] ∧ TJ w lo m3 [.slice (some ⟨b3, 0, none⟩) t.L.length t.L.length] [.sl (t.L.map Exp.enc)] ∧ TJ w m3 m4 [.slice (some ⟨b4, 0, none⟩) t.Decs.length t.Decs.length] [.sl (t.Decs.map Dec.enc)] ∧ TJ w m4 m5 [.slice (some ⟨b5, 0, none⟩) t.Alts.length t.Alts.length] [.sl (t.Alts.map Alt.enc)] ∧ m5 ≤ hi := by
  rw [Exp.encp] at h
  cases h with | int h =>
  cases h with | str _ h =>
  cases h with | int h =>
  cases h with | sl hb3 hn3 hl3 hu3 hf3 hc3 hk3 h3 h =>
  have q3 := TJ.sl hb3 hn3 hl3 hu3 hf3 hc3 hk3 h3 (.nil (Nat.le_refl _))
  rw [List.length_map] at hn3
  subst hn3
  cases h with | sl hb4 hn4 hl4 hu4 hf4 hc4 hk4 h4 h =>
  have q4 := TJ.sl hb4 hn4 hl4 hu4 hf4 hc4 hk4 h4 (.nil (Nat.le_refl _))
  rw [List.length_map] at hn4
  subst hn4
  cases h with | sl hb5 hn5 hl5 hu5 hf5 hc5 hk5 h5 h =>
  have q5 := TJ.sl hb5 hn5 hl5 hu5 hf5 hc5 hk5 h5 (.nil (Nat.le_refl _))
  rw [List.length_map] at hn5
  subst hn5
  cases h with | nil h =>
  exact ⟨_, _, _, _, _, _, rfl, q3, q4, q5, h⟩
theorem len_Exp {l : List Exp} : ∀ x ∈ l.map Exp.enc, x.cells.length = 6 := fun x hx => by
  obtain ⟨t, _, rfl⟩ := List.mem_map.1 hx
  exact Exp.len t
theorem _root_.W.Alt.encp (t : Alt) : t.enc = .agg [.str t.Great, .sl (t.Vars.map HV.str), .int .i64 t.E.K, .str t.E.S, .int .i64 t.E.N, .sl (t.E.L.map Exp.enc), .sl (t.E.Decs.map Dec.enc), .sl (t.E.Alts.map Alt.enc)] := by
  cases t
  rw [Alt.enc, Exp.encp]
  rfl
theorem C_Alt.flat (t : Alt) : ∀ c ∈ t.enc.cells, c.flat = true := by
  rw [Alt.encp]
  simp [HV.cells, HV.flat]
theorem D_Alt {B : Nat} {w : World} {us : List Value} {t : Alt} (h : D B w (.vals us t.enc.cells)) : ∃ v1 v5 v6 v7, us = [.string t.Great, v1, .int .i64 t.E.K, .string t.E.S, .int .i64 t.E.N, v5, v6, v7] ∧ t.Great.size ≤ lim ∧ t.E.S.size ≤ lim ∧ D B w (.val v1 (.sl (t.Vars.map HV.str))) ∧ D B w (.val v5 (.sl (t.E.L.map Exp.enc))) ∧ D B w (.val v6 (.sl (t.E.Decs.map Dec.enc))) ∧ D B w (.val v7 (.sl (t.E.Alts.map Alt.enc))) := by
  rw [Alt.encp] at h
  cases h with | vcons a0 h =>
  cases h with | vcons a1 h =>
  cases h with | vcons a2 h =>
  cases h with | vcons a3 h =>
  cases h with | vcons a4 h =>
  cases h with | vcons a5 h =>
  cases h with | vcons a6 h =>
  cases h with | vcons a7 h =>
  cases h
  cases a0 with | str s0 =>
  cases a2
  cases a3 with | str s3 =>
  cases a4
  exact ⟨_, _, _, _, rfl, s0, s3, a1, a5, a6, a7⟩
theorem Dv_Alt {B : Nat} {w : World} {v : Value} {t : Alt} (h : D B w (.val v t.enc)) : ∃ us : List Value, v = .agg us.toArray ∧ D B w (.vals us t.enc.cells) := by
  have e : t.enc = .agg t.enc.cells := by rw [Alt.encp]; rfl
  rw [e] at h
  cases h with
  | agg hf h => exact ⟨_, rfl, h⟩
theorem Da_Alt {B : Nat} {w : World} {us : List Value} {t : Alt} (h : D B w (.vals us t.enc.cells)) : D B w (.val (.agg us.toArray) t.enc) := by
  have e : t.enc = .agg t.enc.cells := by rw [Alt.encp]; rfl
  have := R.agg (C_Alt.flat t) h
  rw [← e] at this
  exact this
theorem TJ_Alt {w : World} {lo hi : Nat} {us : List Value} {t : Alt} (h : TJ w lo hi us t.enc.cells) : ∃ b1 m1 b5 m5 b6 m6 b7 m7, us = [.string t.Great, .slice (some ⟨b1, 0, none⟩) t.Vars.length t.Vars.length, .int .i64 t.E.K, .string t.E.S, .int .i64 t.E.N, .slice (some ⟨b5, 0, none⟩) t.E.L.length t.E.L.length, .slice (some ⟨b6, 0, none⟩) t.E.Decs.length t.E.Decs.length, .slice (some ⟨b7, 0, none⟩) t.E.Alts.length t.E.Alts.length] ∧ TJ w lo m1 [.slice (some ⟨b1, 0, none⟩) t.Vars.length t.Vars.length] [.sl (t.Vars.map HV.str)] ∧ TJ w m1 m5 [.slice (some ⟨b5, 0, none⟩) t.E.L.length t.E.L.length] [.sl (t.E.L.map Exp.enc)] ∧ TJ w m5 m6 [.slice (some ⟨b6, 0, none⟩) t.E.Decs.length t.E.Decs.length] [.sl (t.E.Decs.map Dec.enc)] ∧ TJ w m6 m7 [.slice (some ⟨b7, 0, none⟩) t.E.Alts.length t.E.Alts.length] [.sl (t.E.Alts.map Alt.enc)] ∧ m7 ≤ hi := by
  rw [Alt.encp] at h
  cases h with | str _ h =>
  cases h with | sl hb1 hn1 hl1 hu1 hf1 hc1 hk1 h1 h =>
  have q1 := TJ.sl hb1 hn1 hl1 hu1 hf1 hc1 hk1 h1 (.nil (Nat.le_refl _))
  rw [List.length_map] at hn1
  subst hn1
  cases h with | int h =>
  cases h with | str _ h =>
  cases h with | int h =>
  cases h with | sl hb5 hn5 hl5 hu5 hf5 hc5 hk5 h5 h =>
  have q5 := TJ.sl hb5 hn5 hl5 hu5 hf5 hc5 hk5 h5 (.nil (Nat.le_refl _))
  rw [List.length_map] at hn5
  subst hn5
  cases h with | sl hb6 hn6 hl6 hu6 hf6 hc6 hk6 h6 h =>
  have q6 := TJ.sl hb6 hn6 hl6 hu6 hf6 hc6 hk6 h6 (.nil (Nat.le_refl _))
  rw [List.length_map] at hn6
  subst hn6
  cases h with | sl hb7 hn7 hl7 hu7 hf7 hc7 hk7 h7 h =>
  have q7 := TJ.sl hb7 hn7 hl7 hu7 hf7 hc7 hk7 h7 (.nil (Nat.le_refl _))
  rw [List.length_map] at hn7
  subst hn7
  cases h with | nil h =>
  exact ⟨_, _, _, _, _, _, _, _, rfl, q1, q5, q6, q7, h⟩
theorem len_Alt {l : List Alt} : ∀ x ∈ l.map Alt.enc, x.cells.length = 8 := fun x hx => by
  obtain ⟨t, _, rfl⟩ := List.mem_map.1 hx
  exact Alt.len t
theorem _root_.W.Dec.encp (t : Dec) : t.enc = .agg [.str t.Name, .sl (t.Pars.map HV.str), .int .i64 t.E.K, .str t.E.S, .int .i64 t.E.N, .sl (t.E.L.map Exp.enc), .sl (t.E.Decs.map Dec.enc), .sl (t.E.Alts.map Alt.enc), .sl (t.Where.map Dec.enc)] := by
  cases t
  rw [Dec.enc, Exp.encp]
  rfl
theorem C_Dec.flat (t : Dec) : ∀ c ∈ t.enc.cells, c.flat = true := by
  rw [Dec.encp]
  simp [HV.cells, HV.flat]
theorem D_Dec {B : Nat} {w : World} {us : List Value} {t : Dec} (h : D B w (.vals us t.enc.cells)) : ∃ v1 v5 v6 v7 v8, us = [.string t.Name, v1, .int .i64 t.E.K, .string t.E.S, .int .i64 t.E.N, v5, v6, v7, v8] ∧ t.Name.size ≤ lim ∧ t.E.S.size ≤ lim ∧ D B w (.val v1 (.sl (t.Pars.map HV.str))) ∧ D B w (.val v5 (.sl (t.E.L.map Exp.enc))) ∧ D B w (.val v6 (.sl (t.E.Decs.map Dec.enc))) ∧ D B w (.val v7 (.sl (t.E.Alts.map Alt.enc))) ∧ D B w (.val v8 (.sl (t.Where.map Dec.enc))) := by
  rw [Dec.encp] at h
  cases h with | vcons a0 h =>
  cases h with | vcons a1 h =>
  cases h with | vcons a2 h =>
  cases h with | vcons a3 h =>
  cases h with | vcons a4 h =>
  cases h with | vcons a5 h =>
  cases h with | vcons a6 h =>
  cases h with | vcons a7 h =>
  cases h with | vcons a8 h =>
  cases h
  cases a0 with | str s0 =>
  cases a2
  cases a3 with | str s3 =>
  cases a4
  exact ⟨_, _, _, _, _, rfl, s0, s3, a1, a5, a6, a7, a8⟩
theorem Dv_Dec {B : Nat} {w : World} {v : Value} {t : Dec} (h : D B w (.val v t.enc)) : ∃ us : List Value, v = .agg us.toArray ∧ D B w (.vals us t.enc.cells) := by
  have e : t.enc = .agg t.enc.cells := by rw [Dec.encp]; rfl
  rw [e] at h
  cases h with
  | agg hf h => exact ⟨_, rfl, h⟩
theorem Da_Dec {B : Nat} {w : World} {us : List Value} {t : Dec} (h : D B w (.vals us t.enc.cells)) : D B w (.val (.agg us.toArray) t.enc) := by
  have e : t.enc = .agg t.enc.cells := by rw [Dec.encp]; rfl
  have := R.agg (C_Dec.flat t) h
  rw [← e] at this
  exact this
theorem TJ_Dec {w : World} {lo hi : Nat} {us : List Value} {t : Dec} (h : TJ w lo hi us t.enc.cells) : ∃ b1 m1 b5 m5 b6 m6 b7 m7 b8 m8, us = [.string t.Name, .slice (some ⟨b1, 0, none⟩) t.Pars.length t.Pars.length, .int .i64 t.E.K, .string t.E.S, .int .i64 t.E.N, .slice (some ⟨b5, 0, none⟩) t.E.L.length t.E.L.length, .slice (some ⟨b6, 0, none⟩) t.E.Decs.length t.E.Decs.length, .slice (some ⟨b7, 0, none⟩) t.E.Alts.length t.E.Alts.length, .slice (some ⟨b8, 0, none⟩) t.Where.length t.Where.length] ∧ TJ w lo m1 [.slice (some ⟨b1, 0, none⟩) t.Pars.length t.Pars.length] [.sl (t.Pars.map HV.str)] ∧ TJ w m1 m5 [.slice (some ⟨b5, 0, none⟩) t.E.L.length t.E.L.length] [.sl (t.E.L.map Exp.enc)] ∧ TJ w m5 m6 [.slice (some ⟨b6, 0, none⟩) t.E.Decs.length t.E.Decs.length] [.sl (t.E.Decs.map Dec.enc)] ∧ TJ w m6 m7 [.slice (some ⟨b7, 0, none⟩) t.E.Alts.length t.E.Alts.length] [.sl (t.E.Alts.map Alt.enc)] ∧ TJ w m7 m8 [.slice (some ⟨b8, 0, none⟩) t.Where.length t.Where.length] [.sl (t.Where.map Dec.enc)] ∧ m8 ≤ hi := by
  rw [Dec.encp] at h
  cases h with | str _ h =>
  cases h with | sl hb1 hn1 hl1 hu1 hf1 hc1 hk1 h1 h =>
  have q1 := TJ.sl hb1 hn1 hl1 hu1 hf1 hc1 hk1 h1 (.nil (Nat.le_refl _))
  rw [List.length_map] at hn1
  subst hn1
  cases h with | int h =>
  cases h with | str _ h =>
  cases h with | int h =>
  cases h with | sl hb5 hn5 hl5 hu5 hf5 hc5 hk5 h5 h =>
  have q5 := TJ.sl hb5 hn5 hl5 hu5 hf5 hc5 hk5 h5 (.nil (Nat.le_refl _))
  rw [List.length_map] at hn5
  subst hn5
  cases h with | sl hb6 hn6 hl6 hu6 hf6 hc6 hk6 h6 h =>
  have q6 := TJ.sl hb6 hn6 hl6 hu6 hf6 hc6 hk6 h6 (.nil (Nat.le_refl _))
  rw [List.length_map] at hn6
  subst hn6
  cases h with | sl hb7 hn7 hl7 hu7 hf7 hc7 hk7 h7 h =>
  have q7 := TJ.sl hb7 hn7 hl7 hu7 hf7 hc7 hk7 h7 (.nil (Nat.le_refl _))
  rw [List.length_map] at hn7
  subst hn7
  cases h with | sl hb8 hn8 hl8 hu8 hf8 hc8 hk8 h8 h =>
  have q8 := TJ.sl hb8 hn8 hl8 hu8 hf8 hc8 hk8 h8 (.nil (Nat.le_refl _))
  rw [List.length_map] at hn8
  subst hn8
  cases h with | nil h =>
  exact ⟨_, _, _, _, _, _, _, _, _, _, rfl, q1, q5, q6, q7, q8, h⟩
theorem len_Dec {l : List Dec} : ∀ x ∈ l.map Dec.enc, x.cells.length = 9 := fun x hx => by
  obtain ⟨t, _, rfl⟩ := List.mem_map.1 hx
  exact Dec.len t
theorem _root_.W.Prog.encp (t : Prog) : t.enc = .agg [.sl (t.Datas.map Data.enc), .sl (t.Decs.map Dec.enc)] := by
  cases t
  rw [Prog.enc]
  rfl
theorem C_Prog.flat (t : Prog) : ∀ c ∈ t.enc.cells, c.flat = true := by
  rw [Prog.encp]
  simp [HV.cells, HV.flat]
theorem D_Prog {B : Nat} {w : World} {us : List Value} {t : Prog} (h : D B w (.vals us t.enc.cells)) : ∃ v0 v1, us = [v0, v1] ∧ D B w (.val v0 (.sl (t.Datas.map Data.enc))) ∧ D B w (.val v1 (.sl (t.Decs.map Dec.enc))) := by
  rw [Prog.encp] at h
  cases h with | vcons a0 h =>
  cases h with | vcons a1 h =>
  cases h
  exact ⟨_, _, rfl, a0, a1⟩
theorem Dv_Prog {B : Nat} {w : World} {v : Value} {t : Prog} (h : D B w (.val v t.enc)) : ∃ us : List Value, v = .agg us.toArray ∧ D B w (.vals us t.enc.cells) := by
  have e : t.enc = .agg t.enc.cells := by rw [Prog.encp]; rfl
  rw [e] at h
  cases h with
  | agg hf h => exact ⟨_, rfl, h⟩
theorem Da_Prog {B : Nat} {w : World} {us : List Value} {t : Prog} (h : D B w (.vals us t.enc.cells)) : D B w (.val (.agg us.toArray) t.enc) := by
  have e : t.enc = .agg t.enc.cells := by rw [Prog.encp]; rfl
  have := R.agg (C_Prog.flat t) h
  rw [← e] at this
  exact this
theorem TJ_Prog {w : World} {lo hi : Nat} {us : List Value} {t : Prog} (h : TJ w lo hi us t.enc.cells) : ∃ b0 m0 b1 m1, us = [.slice (some ⟨b0, 0, none⟩) t.Datas.length t.Datas.length, .slice (some ⟨b1, 0, none⟩) t.Decs.length t.Decs.length] ∧ TJ w lo m0 [.slice (some ⟨b0, 0, none⟩) t.Datas.length t.Datas.length] [.sl (t.Datas.map Data.enc)] ∧ TJ w m0 m1 [.slice (some ⟨b1, 0, none⟩) t.Decs.length t.Decs.length] [.sl (t.Decs.map Dec.enc)] ∧ m1 ≤ hi := by
  rw [Prog.encp] at h
  cases h with | sl hb0 hn0 hl0 hu0 hf0 hc0 hk0 h0 h =>
  have q0 := TJ.sl hb0 hn0 hl0 hu0 hf0 hc0 hk0 h0 (.nil (Nat.le_refl _))
  rw [List.length_map] at hn0
  subst hn0
  cases h with | sl hb1 hn1 hl1 hu1 hf1 hc1 hk1 h1 h =>
  have q1 := TJ.sl hb1 hn1 hl1 hu1 hf1 hc1 hk1 h1 (.nil (Nat.le_refl _))
  rw [List.length_map] at hn1
  subst hn1
  cases h with | nil h =>
  exact ⟨_, _, _, _, rfl, q0, q1, h⟩
theorem len_Prog {l : List Prog} : ∀ x ∈ l.map Prog.enc, x.cells.length = 2 := fun x hx => by
  obtain ⟨t, _, rfl⟩ := List.mem_map.1 hx
  exact Prog.len t
theorem len_str {l : List ByteArray} : ∀ x ∈ l.map HV.str, x.cells.length = 1 := fun x hx => by
  obtain ⟨t, _, rfl⟩ := List.mem_map.1 hx
  rfl
theorem sub_Alt_E {B : Nat} {w : World} {t : Alt} {a0 a1 a2 a3 a4 a5 a6 a7 : Value} (h : D B w (.vals [a0, a1, a2, a3, a4, a5, a6, a7] t.enc.cells)) : D B w (.val (.agg #[a2, a3, a4, a5, a6, a7]) t.E.enc) := by
  have e : t.enc.cells = ([.str t.Great, .sl (t.Vars.map HV.str)] : List HV) ++ t.E.enc.cells ++ ([] : List HV) := by
    rw [Alt.encp, Exp.encp]; rfl
  rw [e] at h
  have h2 := (h.vals_drop 2).vals_take 6
  refine Da_Exp (us := [a2, a3, a4, a5, a6, a7]) ?_
  have e2 : ((([.str t.Great, .sl (t.Vars.map HV.str)] : List HV) ++ t.E.enc.cells ++ ([] : List HV)).drop 2).take 6 = t.E.enc.cells := by
    rw [Exp.encp]; rfl
  rw [e2] at h2
  exact h2
theorem sub_Dec_E {B : Nat} {w : World} {t : Dec} {a0 a1 a2 a3 a4 a5 a6 a7 a8 : Value} (h : D B w (.vals [a0, a1, a2, a3, a4, a5, a6, a7, a8] t.enc.cells)) : D B w (.val (.agg #[a2, a3, a4, a5, a6, a7]) t.E.enc) := by
  have e : t.enc.cells = ([.str t.Name, .sl (t.Pars.map HV.str)] : List HV) ++ t.E.enc.cells ++ ([.sl (t.Where.map Dec.enc)] : List HV) := by
    rw [Dec.encp, Exp.encp]; rfl
  rw [e] at h
  have h2 := (h.vals_drop 2).vals_take 6
  refine Da_Exp (us := [a2, a3, a4, a5, a6, a7]) ?_
  have e2 : ((([.str t.Name, .sl (t.Pars.map HV.str)] : List HV) ++ t.E.enc.cells ++ ([.sl (t.Where.map Dec.enc)] : List HV)).drop 2).take 6 = t.E.enc.cells := by
    rw [Exp.encp]; rfl
  rw [e2] at h2
  exact h2
abbrev zero_Data : List Value := [.string ⟨#[]⟩, .slice none 0 0]
theorem make_Data (n : Nat) (hn : n ≤ 1099511627776) (w : World) : (Instr.makeSlice 29 (.int .i64 (n : Int)) (.int .i64 (n : Int))).run Go.Proofs.Try.prog w = .ok (.slice (some ⟨w.heap.size, 0, none⟩) n n) (w.alloc (.cells (zrow zero_Data n).toArray 73)) :=
  make_row (sz := 2) (bytes := 40) (by kernel_rfl) (by kernel_rfl) rfl (by decide) n hn w
abbrev zero_Dec : List Value := [.string ⟨#[]⟩, .slice none 0 0, .int .i64 0, .string ⟨#[]⟩, .int .i64 0, .slice none 0 0, .slice none 0 0, .slice none 0 0, .slice none 0 0]
theorem make_Dec (n : Nat) (hn : n ≤ 1099511627776) (w : World) : (Instr.makeSlice 30 (.int .i64 (n : Int)) (.int .i64 (n : Int))).run Go.Proofs.Try.prog w = .ok (.slice (some ⟨w.heap.size, 0, none⟩) n n) (w.alloc (.cells (zrow zero_Dec n).toArray 49)) :=
  make_row (sz := 9) (bytes := 168) (by kernel_rfl) (by kernel_rfl) rfl (by decide) n hn w
abbrev zero_Con : List Value := [.string ⟨#[]⟩, .slice none 0 0]
theorem make_Con (n : Nat) (hn : n ≤ 1099511627776) (w : World) : (Instr.makeSlice 71 (.int .i64 (n : Int)) (.int .i64 (n : Int))).run Go.Proofs.Try.prog w = .ok (.slice (some ⟨w.heap.size, 0, none⟩) n n) (w.alloc (.cells (zrow zero_Con n).toArray 99)) :=
  make_row (sz := 2) (bytes := 40) (by kernel_rfl) (by kernel_rfl) rfl (by decide) n hn w
abbrev zero_Ty : List Value := [.int .i64 0, .string ⟨#[]⟩, .int .i64 0, .slice none 0 0]
theorem make_Ty (n : Nat) (hn : n ≤ 1099511627776) (w : World) : (Instr.makeSlice 97 (.int .i64 (n : Int)) (.int .i64 (n : Int))).run Go.Proofs.Try.prog w = .ok (.slice (some ⟨w.heap.size, 0, none⟩) n n) (w.alloc (.cells (zrow zero_Ty n).toArray 116)) :=
  make_row (sz := 4) (bytes := 56) (by kernel_rfl) (by kernel_rfl) rfl (by decide) n hn w
abbrev zero_String : List Value := [.string ⟨#[]⟩]
theorem make_String (n : Nat) (hn : n ≤ 1099511627776) (w : World) : (Instr.makeSlice 27 (.int .i64 (n : Int)) (.int .i64 (n : Int))).run Go.Proofs.Try.prog w = .ok (.slice (some ⟨w.heap.size, 0, none⟩) n n) (w.alloc (.cells (zrow zero_String n).toArray 9)) :=
  make_row (sz := 1) (bytes := 16) (by kernel_rfl) (by kernel_rfl) rfl (by decide) n hn w
abbrev zero_Exp : List Value := [.int .i64 0, .string ⟨#[]⟩, .int .i64 0, .slice none 0 0, .slice none 0 0, .slice none 0 0]
theorem make_Exp (n : Nat) (hn : n ≤ 1099511627776) (w : World) : (Instr.makeSlice 44 (.int .i64 (n : Int)) (.int .i64 (n : Int))).run Go.Proofs.Try.prog w = .ok (.slice (some ⟨w.heap.size, 0, none⟩) n n) (w.alloc (.cells (zrow zero_Exp n).toArray 47)) :=
  make_row (sz := 6) (bytes := 104) (by kernel_rfl) (by kernel_rfl) rfl (by decide) n hn w
abbrev zero_Alt : List Value := [.string ⟨#[]⟩, .slice none 0 0, .int .i64 0, .string ⟨#[]⟩, .int .i64 0, .slice none 0 0, .slice none 0 0, .slice none 0 0]
theorem make_Alt (n : Nat) (hn : n ≤ 1099511627776) (w : World) : (Instr.makeSlice 45 (.int .i64 (n : Int)) (.int .i64 (n : Int))).run Go.Proofs.Try.prog w = .ok (.slice (some ⟨w.heap.size, 0, none⟩) n n) (w.alloc (.cells (zrow zero_Alt n).toArray 70)) :=
  make_row (sz := 8) (bytes := 144) (by kernel_rfl) (by kernel_rfl) rfl (by decide) n hn w
theorem toTy_own {B : Nat} {t : Ty} {w : World} {v : Value} (hB : B ≤ w.heap.size) (h : D B w (.val v t.enc))
    (ih0 : ∀ (w1 : World) (v1 : Value), B ≤ w1.heap.size → D B w1 (.val v1 (.sl (t.L.map Ty.enc))) → Calls Go.Proofs.Try.prog 74 #[v1] w1 fun e w' => ∃ v' : Value, e = .returned v' ∧ TJ w' w1.heap.size w'.heap.size [v'] [.sl (t.L.map Ty.enc)] ∧ Below w1.heap.size w1 w') :
    Calls Go.Proofs.Try.prog 81 #[v] w fun e w' => ∃ us : List Value, e = .returned (.agg us.toArray) ∧ TJ w' w.heap.size w'.heap.size us t.enc.cells ∧ Below w.heap.size w w' := by
  obtain ⟨us, rfl, hd⟩ := Dv_Ty h
  obtain ⟨v3, rfl, s1, d3⟩ := D_Ty hd
  have kI := Kept.mk (And.intro hB (And.intro h hd))
  have kD := Kept.mk (And.intro d3 trivial)
  clear hB h hd d3
  go_enter Go.Proofs.Try.func81, Go.Proofs.Try.ntmps81
  go_wp2_with fail
  -- t.L
  have bel0 : Below w.heap.size w (((w.alloc (Obj.cells #[.int .i64 t.K, .string t.S, .int .i64 t.N, v3] 130)).alloc (Obj.cells #[.int .i64 0, .string ⟨#[]⟩, .int .i64 0, .slice none 0 0] 116)).alloc (Obj.cells #[.int .i64 t.K, .string t.S, .int .i64 t.N, .slice none 0 0] 116)) := (((Below.refl _ _).alloc (Nat.le_refl _) _).alloc (by simp) _).alloc (by simp; omega) _
  have sz0 : w.heap.size + 3 = ((((w.alloc (Obj.cells #[.int .i64 t.K, .string t.S, .int .i64 t.N, v3] 130)).alloc (Obj.cells #[.int .i64 0, .string ⟨#[]⟩, .int .i64 0, .slice none 0 0] 116)).alloc (Obj.cells #[.int .i64 t.K, .string t.S, .int .i64 t.N, .slice none 0 0] 116))).heap.size := by simp only [World.size_alloc]
  refine (ih0 _ v3 (Nat.le_trans kI.get.1 bel0.size) (D.mono kD.get.1 fun k hk => bel0.block k hk)).mono ?_
  rintro e w1 ⟨r0, rfl, ht0, hb0⟩
  obtain ⟨b3, rfl, _, _⟩ := ht0.one
  rw [List.length_map] at ht0 ⊢
  rw [← sz0] at ht0 hb0
  have cb1 : w1.heap[w.heap.size]? = some (.cells #[.int .i64 t.K, .string t.S, .int .i64 t.N, v3] 130 (0, 0)) := by
    rw [hb0.block _ (by omega), Below.heap_alloc _ _ _ (by simp; omega), Below.heap_alloc _ _ _ (by simp)]; exact alloc_at rfl
  have co1 : w1.heap[w.heap.size + 1]? = some (.cells #[.int .i64 0, .string ⟨#[]⟩, .int .i64 0, .slice none 0 0] 116 (0, 0)) := by
    rw [hb0.block _ (by omega), Below.heap_alloc _ _ _ (by simp)]; exact alloc_at (by simp)
  have ct1 : w1.heap[w.heap.size + 1 + 1]? = some (.cells #[.int .i64 t.K, .string t.S, .int .i64 t.N, .slice none 0 0] 116 (0, 0)) := by
    rw [hb0.block _ (by omega)]; exact alloc_at (by simp)
  have z1 : w.heap.size + 3 ≤ w1.heap.size := Nat.le_trans (Nat.le_of_eq sz0) hb0.size
  have blw1 : Below w.heap.size w w1 := bel0.trans (hb0.mono (by omega))
  have keep1 : Kept (TJ w1 (w.heap.size + 3) w1.heap.size [.slice (some ⟨b3, 0, none⟩) t.L.length t.L.length] [.sl (t.L.map Ty.enc)] ∧ True) := .mk ⟨ht0, trivial⟩
  obtain ⟨sa0, sa1, sa2, sa3⟩ := box4 cb1
  obtain ⟨ta0, ta1, ta2, ta3⟩ := box4 ct1
  have tf0 := free_at (i := 3) ct1
  obtain ⟨oa0, oa1, oa2, oa3⟩ := box4 co1
  have of0 := free_at (i := 0) co1
  have of1 := free_at (i := 1) co1
  have of2 := free_at (i := 2) co1
  have of3 := free_at (i := 3) co1
  have kc := Kept.mk (And.intro cb1 (And.intro co1 (And.intro ct1 blw1)))
  clear bel0 sz0 hb0 ht0 cb1 co1 ct1 blw1
  go_wp2_with fail
  refine bodyPost_ret (v := .agg #[.int .i64 t.K, .string t.S, .int .i64 t.N, .slice (some ⟨b3, 0, none⟩) t.L.length t.L.length]) ?_ rfl ⟨[.int .i64 t.K, .string t.S, .int .i64 t.N, .slice (some ⟨b3, 0, none⟩) t.L.length t.L.length], rfl, ?_, ?_⟩
  · simp [results, Go.Proofs.Try.results81, go_sem, cell_set, oa0, oa1, oa2, oa3]
  · rw [Ty.encp]
    have of : Out w.heap.size (w.heap.size + 3) w1 ((w1.setCells (w.heap.size + 1 + 1) 3 [.slice (some ⟨b3, 0, none⟩) t.L.length t.L.length]).setCells (w.heap.size + 1) 0 [.int .i64 t.K, .string t.S, .int .i64 t.N, .slice (some ⟨b3, 0, none⟩) t.L.length t.L.length]) := (out_setCells (b := w.heap.size + 1 + 1) (by omega) (by omega)).trans (out_setCells (b := w.heap.size + 1) (by omega) (by omega))
    have ht := (keep1.get.1.mono (w' := ((w1.setCells (w.heap.size + 1 + 1) 3 [.slice (some ⟨b3, 0, none⟩) t.L.length t.L.length]).setCells (w.heap.size + 1) 0 [.int .i64 t.K, .string t.S, .int .i64 t.N, .slice (some ⟨b3, 0, none⟩) t.L.length t.L.length])) fun k h1 h2 => of.heap k h2 (by omega)).lower (lo' := w.heap.size) (by omega)
    have hh := ht.hi (hi' := (((w1.setCells (w.heap.size + 1 + 1) 3 [.slice (some ⟨b3, 0, none⟩) t.L.length t.L.length]).setCells (w.heap.size + 1) 0 [.int .i64 t.K, .string t.S, .int .i64 t.N, .slice (some ⟨b3, 0, none⟩) t.L.length t.L.length])).heap.size) (by rw [size_setCells, size_setCells]; exact Nat.le_refl _)
    exact .int (.str s1 (.int (hh)))
  · have of : Out w.heap.size (w.heap.size + 3) w1 ((w1.setCells (w.heap.size + 1 + 1) 3 [.slice (some ⟨b3, 0, none⟩) t.L.length t.L.length]).setCells (w.heap.size + 1) 0 [.int .i64 t.K, .string t.S, .int .i64 t.N, .slice (some ⟨b3, 0, none⟩) t.L.length t.L.length]) := (out_setCells (b := w.heap.size + 1 + 1) (by omega) (by omega)).trans (out_setCells (b := w.heap.size + 1) (by omega) (by omega))
    exact kc.get.2.2.2.trans (of.below (by omega))
theorem toCon_own {B : Nat} {t : Con} {w : World} {v : Value} (hB : B ≤ w.heap.size) (h : D B w (.val v t.enc))
    (ih0 : ∀ (w1 : World) (v1 : Value), B ≤ w1.heap.size → D B w1 (.val v1 (.sl (t.Args.map Ty.enc))) → Calls Go.Proofs.Try.prog 74 #[v1] w1 fun e w' => ∃ v' : Value, e = .returned v' ∧ TJ w' w1.heap.size w'.heap.size [v'] [.sl (t.Args.map Ty.enc)] ∧ Below w1.heap.size w1 w') :
    Calls Go.Proofs.Try.prog 63 #[v] w fun e w' => ∃ us : List Value, e = .returned (.agg us.toArray) ∧ TJ w' w.heap.size w'.heap.size us t.enc.cells ∧ Below w.heap.size w w' := by
  obtain ⟨us, rfl, hd⟩ := Dv_Con h
  obtain ⟨v1, rfl, s0, d1⟩ := D_Con hd
  have kI := Kept.mk (And.intro hB (And.intro h hd))
  have kD := Kept.mk (And.intro d1 trivial)
  clear hB h hd d1
  go_enter Go.Proofs.Try.func63, Go.Proofs.Try.ntmps63
  go_wp2_with fail
  -- t.Args
  have bel0 : Below w.heap.size w (((w.alloc (Obj.cells #[.string t.Name, v1] 104)).alloc (Obj.cells #[.string ⟨#[]⟩, .slice none 0 0] 99)).alloc (Obj.cells #[.string t.Name, .slice none 0 0] 99)) := (((Below.refl _ _).alloc (Nat.le_refl _) _).alloc (by simp) _).alloc (by simp; omega) _
  have sz0 : w.heap.size + 3 = ((((w.alloc (Obj.cells #[.string t.Name, v1] 104)).alloc (Obj.cells #[.string ⟨#[]⟩, .slice none 0 0] 99)).alloc (Obj.cells #[.string t.Name, .slice none 0 0] 99))).heap.size := by simp only [World.size_alloc]
  refine (ih0 _ v1 (Nat.le_trans kI.get.1 bel0.size) (D.mono kD.get.1 fun k hk => bel0.block k hk)).mono ?_
  rintro e w1 ⟨r0, rfl, ht0, hb0⟩
  obtain ⟨b1, rfl, _, _⟩ := ht0.one
  rw [List.length_map] at ht0 ⊢
  rw [← sz0] at ht0 hb0
  have cb1 : w1.heap[w.heap.size]? = some (.cells #[.string t.Name, v1] 104 (0, 0)) := by
    rw [hb0.block _ (by omega), Below.heap_alloc _ _ _ (by simp; omega), Below.heap_alloc _ _ _ (by simp)]; exact alloc_at rfl
  have co1 : w1.heap[w.heap.size + 1]? = some (.cells #[.string ⟨#[]⟩, .slice none 0 0] 99 (0, 0)) := by
    rw [hb0.block _ (by omega), Below.heap_alloc _ _ _ (by simp)]; exact alloc_at (by simp)
  have ct1 : w1.heap[w.heap.size + 1 + 1]? = some (.cells #[.string t.Name, .slice none 0 0] 99 (0, 0)) := by
    rw [hb0.block _ (by omega)]; exact alloc_at (by simp)
  have z1 : w.heap.size + 3 ≤ w1.heap.size := Nat.le_trans (Nat.le_of_eq sz0) hb0.size
  have blw1 : Below w.heap.size w w1 := bel0.trans (hb0.mono (by omega))
  have keep1 : Kept (TJ w1 (w.heap.size + 3) w1.heap.size [.slice (some ⟨b1, 0, none⟩) t.Args.length t.Args.length] [.sl (t.Args.map Ty.enc)] ∧ True) := .mk ⟨ht0, trivial⟩
  obtain ⟨sa0, sa1⟩ := box2 cb1
  obtain ⟨ta0, ta1⟩ := box2 ct1
  have tf0 := free_at (i := 1) ct1
  obtain ⟨oa0, oa1⟩ := box2 co1
  have of0 := free_at (i := 0) co1
  have of1 := free_at (i := 1) co1
  have kc := Kept.mk (And.intro cb1 (And.intro co1 (And.intro ct1 blw1)))
  clear bel0 sz0 hb0 ht0 cb1 co1 ct1 blw1
  go_wp2_with fail
  refine bodyPost_ret (v := .agg #[.string t.Name, .slice (some ⟨b1, 0, none⟩) t.Args.length t.Args.length]) ?_ rfl ⟨[.string t.Name, .slice (some ⟨b1, 0, none⟩) t.Args.length t.Args.length], rfl, ?_, ?_⟩
  · simp [results, Go.Proofs.Try.results63, go_sem, cell_set, oa0, oa1]
  · rw [Con.encp]
    have of : Out w.heap.size (w.heap.size + 3) w1 ((w1.setCells (w.heap.size + 1 + 1) 1 [.slice (some ⟨b1, 0, none⟩) t.Args.length t.Args.length]).setCells (w.heap.size + 1) 0 [.string t.Name, .slice (some ⟨b1, 0, none⟩) t.Args.length t.Args.length]) := (out_setCells (b := w.heap.size + 1 + 1) (by omega) (by omega)).trans (out_setCells (b := w.heap.size + 1) (by omega) (by omega))
    have ht := (keep1.get.1.mono (w' := ((w1.setCells (w.heap.size + 1 + 1) 1 [.slice (some ⟨b1, 0, none⟩) t.Args.length t.Args.length]).setCells (w.heap.size + 1) 0 [.string t.Name, .slice (some ⟨b1, 0, none⟩) t.Args.length t.Args.length])) fun k h1 h2 => of.heap k h2 (by omega)).lower (lo' := w.heap.size) (by omega)
    have hh := ht.hi (hi' := (((w1.setCells (w.heap.size + 1 + 1) 1 [.slice (some ⟨b1, 0, none⟩) t.Args.length t.Args.length]).setCells (w.heap.size + 1) 0 [.string t.Name, .slice (some ⟨b1, 0, none⟩) t.Args.length t.Args.length])).heap.size) (by rw [size_setCells, size_setCells]; exact Nat.le_refl _)
    exact .str s0 (hh)
  · have of : Out w.heap.size (w.heap.size + 3) w1 ((w1.setCells (w.heap.size + 1 + 1) 1 [.slice (some ⟨b1, 0, none⟩) t.Args.length t.Args.length]).setCells (w.heap.size + 1) 0 [.string t.Name, .slice (some ⟨b1, 0, none⟩) t.Args.length t.Args.length]) := (out_setCells (b := w.heap.size + 1 + 1) (by omega) (by omega)).trans (out_setCells (b := w.heap.size + 1) (by omega) (by omega))
    exact kc.get.2.2.2.trans (of.below (by omega))
theorem toData_own {B : Nat} {t : Data} {w : World} {v : Value} (hB : B ≤ w.heap.size) (h : D B w (.val v t.enc))
    (ih0 : ∀ (w1 : World) (v1 : Value), B ≤ w1.heap.size → D B w1 (.val v1 (.sl (t.Cons.map Con.enc))) → Calls Go.Proofs.Try.prog 47 #[v1] w1 fun e w' => ∃ v' : Value, e = .returned v' ∧ TJ w' w1.heap.size w'.heap.size [v'] [.sl (t.Cons.map Con.enc)] ∧ Below w1.heap.size w1 w') :
    Calls Go.Proofs.Try.prog 31 #[v] w fun e w' => ∃ us : List Value, e = .returned (.agg us.toArray) ∧ TJ w' w.heap.size w'.heap.size us t.enc.cells ∧ Below w.heap.size w w' := by
  obtain ⟨us, rfl, hd⟩ := Dv_Data h
  obtain ⟨v1, rfl, s0, d1⟩ := D_Data hd
  have kI := Kept.mk (And.intro hB (And.intro h hd))
  have kD := Kept.mk (And.intro d1 trivial)
  clear hB h hd d1
  go_enter Go.Proofs.Try.func31, Go.Proofs.Try.ntmps31
  go_wp2_with fail
  -- t.Cons
  have bel0 : Below w.heap.size w (((w.alloc (Obj.cells #[.string t.Name, v1] 60)).alloc (Obj.cells #[.string ⟨#[]⟩, .slice none 0 0] 73)).alloc (Obj.cells #[.string t.Name, .slice none 0 0] 73)) := (((Below.refl _ _).alloc (Nat.le_refl _) _).alloc (by simp) _).alloc (by simp; omega) _
  have sz0 : w.heap.size + 3 = ((((w.alloc (Obj.cells #[.string t.Name, v1] 60)).alloc (Obj.cells #[.string ⟨#[]⟩, .slice none 0 0] 73)).alloc (Obj.cells #[.string t.Name, .slice none 0 0] 73))).heap.size := by simp only [World.size_alloc]
  refine (ih0 _ v1 (Nat.le_trans kI.get.1 bel0.size) (D.mono kD.get.1 fun k hk => bel0.block k hk)).mono ?_
  rintro e w1 ⟨r0, rfl, ht0, hb0⟩
  obtain ⟨b1, rfl, _, _⟩ := ht0.one
  rw [List.length_map] at ht0 ⊢
  rw [← sz0] at ht0 hb0
  have cb1 : w1.heap[w.heap.size]? = some (.cells #[.string t.Name, v1] 60 (0, 0)) := by
    rw [hb0.block _ (by omega), Below.heap_alloc _ _ _ (by simp; omega), Below.heap_alloc _ _ _ (by simp)]; exact alloc_at rfl
  have co1 : w1.heap[w.heap.size + 1]? = some (.cells #[.string ⟨#[]⟩, .slice none 0 0] 73 (0, 0)) := by
    rw [hb0.block _ (by omega), Below.heap_alloc _ _ _ (by simp)]; exact alloc_at (by simp)
  have ct1 : w1.heap[w.heap.size + 1 + 1]? = some (.cells #[.string t.Name, .slice none 0 0] 73 (0, 0)) := by
    rw [hb0.block _ (by omega)]; exact alloc_at (by simp)
  have z1 : w.heap.size + 3 ≤ w1.heap.size := Nat.le_trans (Nat.le_of_eq sz0) hb0.size
  have blw1 : Below w.heap.size w w1 := bel0.trans (hb0.mono (by omega))
  have keep1 : Kept (TJ w1 (w.heap.size + 3) w1.heap.size [.slice (some ⟨b1, 0, none⟩) t.Cons.length t.Cons.length] [.sl (t.Cons.map Con.enc)] ∧ True) := .mk ⟨ht0, trivial⟩
  obtain ⟨sa0, sa1⟩ := box2 cb1
  obtain ⟨ta0, ta1⟩ := box2 ct1
  have tf0 := free_at (i := 1) ct1
  obtain ⟨oa0, oa1⟩ := box2 co1
  have of0 := free_at (i := 0) co1
  have of1 := free_at (i := 1) co1
  have kc := Kept.mk (And.intro cb1 (And.intro co1 (And.intro ct1 blw1)))
  clear bel0 sz0 hb0 ht0 cb1 co1 ct1 blw1
  go_wp2_with fail
  refine bodyPost_ret (v := .agg #[.string t.Name, .slice (some ⟨b1, 0, none⟩) t.Cons.length t.Cons.length]) ?_ rfl ⟨[.string t.Name, .slice (some ⟨b1, 0, none⟩) t.Cons.length t.Cons.length], rfl, ?_, ?_⟩
  · simp [results, Go.Proofs.Try.results31, go_sem, cell_set, oa0, oa1]
  · rw [Data.encp]
    have of : Out w.heap.size (w.heap.size + 3) w1 ((w1.setCells (w.heap.size + 1 + 1) 1 [.slice (some ⟨b1, 0, none⟩) t.Cons.length t.Cons.length]).setCells (w.heap.size + 1) 0 [.string t.Name, .slice (some ⟨b1, 0, none⟩) t.Cons.length t.Cons.length]) := (out_setCells (b := w.heap.size + 1 + 1) (by omega) (by omega)).trans (out_setCells (b := w.heap.size + 1) (by omega) (by omega))
    have ht := (keep1.get.1.mono (w' := ((w1.setCells (w.heap.size + 1 + 1) 1 [.slice (some ⟨b1, 0, none⟩) t.Cons.length t.Cons.length]).setCells (w.heap.size + 1) 0 [.string t.Name, .slice (some ⟨b1, 0, none⟩) t.Cons.length t.Cons.length])) fun k h1 h2 => of.heap k h2 (by omega)).lower (lo' := w.heap.size) (by omega)
    have hh := ht.hi (hi' := (((w1.setCells (w.heap.size + 1 + 1) 1 [.slice (some ⟨b1, 0, none⟩) t.Cons.length t.Cons.length]).setCells (w.heap.size + 1) 0 [.string t.Name, .slice (some ⟨b1, 0, none⟩) t.Cons.length t.Cons.length])).heap.size) (by rw [size_setCells, size_setCells]; exact Nat.le_refl _)
    exact .str s0 (hh)
  · have of : Out w.heap.size (w.heap.size + 3) w1 ((w1.setCells (w.heap.size + 1 + 1) 1 [.slice (some ⟨b1, 0, none⟩) t.Cons.length t.Cons.length]).setCells (w.heap.size + 1) 0 [.string t.Name, .slice (some ⟨b1, 0, none⟩) t.Cons.length t.Cons.length]) := (out_setCells (b := w.heap.size + 1 + 1) (by omega) (by omega)).trans (out_setCells (b := w.heap.size + 1) (by omega) (by omega))
    exact kc.get.2.2.2.trans (of.below (by omega))
theorem toExp_own {B : Nat} {t : Exp} {w : World} {v : Value} (hB : B ≤ w.heap.size) (h : D B w (.val v t.enc))
    (ih0 : ∀ (w1 : World) (v1 : Value), B ≤ w1.heap.size → D B w1 (.val v1 (.sl (t.L.map Exp.enc))) → Calls Go.Proofs.Try.prog 64 #[v1] w1 fun e w' => ∃ v' : Value, e = .returned v' ∧ TJ w' w1.heap.size w'.heap.size [v'] [.sl (t.L.map Exp.enc)] ∧ Below w1.heap.size w1 w')
    (ih1 : ∀ (w1 : World) (v1 : Value), B ≤ w1.heap.size → D B w1 (.val v1 (.sl (t.Decs.map Dec.enc))) → Calls Go.Proofs.Try.prog 20 #[v1] w1 fun e w' => ∃ v' : Value, e = .returned v' ∧ TJ w' w1.heap.size w'.heap.size [v'] [.sl (t.Decs.map Dec.enc)] ∧ Below w1.heap.size w1 w')
    (ih2 : ∀ (w1 : World) (v1 : Value), B ≤ w1.heap.size → D B w1 (.val v1 (.sl (t.Alts.map Alt.enc))) → Calls Go.Proofs.Try.prog 65 #[v1] w1 fun e w' => ∃ v' : Value, e = .returned v' ∧ TJ w' w1.heap.size w'.heap.size [v'] [.sl (t.Alts.map Alt.enc)] ∧ Below w1.heap.size w1 w') :
    Calls Go.Proofs.Try.prog 49 #[v] w fun e w' => ∃ us : List Value, e = .returned (.agg us.toArray) ∧ TJ w' w.heap.size w'.heap.size us t.enc.cells ∧ Below w.heap.size w w' := by
  obtain ⟨us, rfl, hd⟩ := Dv_Exp h
  obtain ⟨v3, v4, v5, rfl, s1, d3, d4, d5⟩ := D_Exp hd
  have kI := Kept.mk (And.intro hB (And.intro h hd))
  have kD := Kept.mk (And.intro d3 (And.intro d4 (And.intro d5 trivial)))
  clear hB h hd d3 d4 d5
  go_enter Go.Proofs.Try.func49, Go.Proofs.Try.ntmps49
  go_wp2_with fail
  -- t.L
  have bel0 : Below w.heap.size w (((w.alloc (Obj.cells #[.int .i64 t.K, .string t.S, .int .i64 t.N, v3, v4, v5] 65)).alloc (Obj.cells #[.int .i64 0, .string ⟨#[]⟩, .int .i64 0, .slice none 0 0, .slice none 0 0, .slice none 0 0] 47)).alloc (Obj.cells #[.int .i64 t.K, .string t.S, .int .i64 t.N, .slice none 0 0, .slice none 0 0, .slice none 0 0] 47)) := (((Below.refl _ _).alloc (Nat.le_refl _) _).alloc (by simp) _).alloc (by simp; omega) _
  have sz0 : w.heap.size + 3 = ((((w.alloc (Obj.cells #[.int .i64 t.K, .string t.S, .int .i64 t.N, v3, v4, v5] 65)).alloc (Obj.cells #[.int .i64 0, .string ⟨#[]⟩, .int .i64 0, .slice none 0 0, .slice none 0 0, .slice none 0 0] 47)).alloc (Obj.cells #[.int .i64 t.K, .string t.S, .int .i64 t.N, .slice none 0 0, .slice none 0 0, .slice none 0 0] 47))).heap.size := by simp only [World.size_alloc]
  refine (ih0 _ v3 (Nat.le_trans kI.get.1 bel0.size) (D.mono kD.get.1 fun k hk => bel0.block k hk)).mono ?_
  rintro e w1 ⟨r0, rfl, ht0, hb0⟩
  obtain ⟨b3, rfl, _, _⟩ := ht0.one
  rw [List.length_map] at ht0 ⊢
  rw [← sz0] at ht0 hb0
  have cb1 : w1.heap[w.heap.size]? = some (.cells #[.int .i64 t.K, .string t.S, .int .i64 t.N, v3, v4, v5] 65 (0, 0)) := by
    rw [hb0.block _ (by omega), Below.heap_alloc _ _ _ (by simp; omega), Below.heap_alloc _ _ _ (by simp)]; exact alloc_at rfl
  have co1 : w1.heap[w.heap.size + 1]? = some (.cells #[.int .i64 0, .string ⟨#[]⟩, .int .i64 0, .slice none 0 0, .slice none 0 0, .slice none 0 0] 47 (0, 0)) := by
    rw [hb0.block _ (by omega), Below.heap_alloc _ _ _ (by simp)]; exact alloc_at (by simp)
  have ct1 : w1.heap[w.heap.size + 1 + 1]? = some (.cells #[.int .i64 t.K, .string t.S, .int .i64 t.N, .slice none 0 0, .slice none 0 0, .slice none 0 0] 47 (0, 0)) := by
    rw [hb0.block _ (by omega)]; exact alloc_at (by simp)
  have z1 : w.heap.size + 3 ≤ w1.heap.size := Nat.le_trans (Nat.le_of_eq sz0) hb0.size
  have blw1 : Below w.heap.size w w1 := bel0.trans (hb0.mono (by omega))
  have keep1 : Kept (TJ w1 (w.heap.size + 3) w1.heap.size [.slice (some ⟨b3, 0, none⟩) t.L.length t.L.length] [.sl (t.L.map Exp.enc)] ∧ True) := .mk ⟨ht0, trivial⟩
  obtain ⟨sa0, sa1, sa2, sa3, sa4, sa5⟩ := box6 cb1
  obtain ⟨ta0, ta1, ta2, ta3, ta4, ta5⟩ := box6 ct1
  have tf0 := free_at (i := 3) ct1
  have kc := Kept.mk (And.intro cb1 (And.intro co1 (And.intro ct1 blw1)))
  clear bel0 sz0 hb0 ht0 cb1 co1 ct1 blw1
  go_wp2_with fail
  have bel1 : Below w.heap.size w (w1.setCells (w.heap.size + 1 + 1) 3 [.slice (some ⟨b3, 0, none⟩) t.L.length t.L.length]) := below_setCells (by omega) kc.get.2.2.2
  clear sa0 sa1 sa2 sa3 sa4 sa5 ta0 ta1 ta2 ta3 ta4 ta5 tf0
  -- t.Decs
  refine (ih1 _ v4 (Nat.le_trans kI.get.1 bel1.size) (D.mono kD.get.2.1 fun k hk => bel1.block k hk)).mono ?_
  rintro e w2 ⟨r1, rfl, ht1, hb1⟩
  obtain ⟨b4, rfl, _, _⟩ := ht1.one
  rw [List.length_map] at ht1 ⊢
  have hw1 : Below w1.heap.size (w1.setCells (w.heap.size + 1 + 1) 3 [.slice (some ⟨b3, 0, none⟩) t.L.length t.L.length]) w2 := by
    rw [size_setCells] at hb1
    exact hb1
  have cb2 : w2.heap[w.heap.size]? = some (.cells #[.int .i64 t.K, .string t.S, .int .i64 t.N, v3, v4, v5] 65 (0, 0)) := by
    rw [hw1.block _ (by omega), heap_setCells (by omega)]; exact kc.get.1
  have co2 : w2.heap[w.heap.size + 1]? = some (.cells #[.int .i64 0, .string ⟨#[]⟩, .int .i64 0, .slice none 0 0, .slice none 0 0, .slice none 0 0] 47 (0, 0)) := by
    rw [hw1.block _ (by omega), heap_setCells (by omega)]; exact kc.get.2.1
  have ct2 : w2.heap[w.heap.size + 1 + 1]? = some (.cells #[.int .i64 t.K, .string t.S, .int .i64 t.N, .slice (some ⟨b3, 0, none⟩) t.L.length t.L.length, .slice none 0 0, .slice none 0 0] 47 (0, 0)) := by
    rw [hw1.block _ (by omega)]
    exact set_row (us := [.slice (some ⟨b3, 0, none⟩) t.L.length t.L.length]) (zs := [.slice none 0 0]) (vs := [.int .i64 t.K, .string t.S, .int .i64 t.N]) (r := [.slice none 0 0, .slice none 0 0]) rfl kc.get.2.2.1
  have z2 : w.heap.size + 3 ≤ w2.heap.size := Nat.le_trans z1 (bel_size hw1)
  have o1 : Out w.heap.size (w.heap.size + 3) w1 w2 := (out_setCells (b := w.heap.size + 1 + 1) (by omega) (by omega)).trans (Out.of_below (by rw [size_setCells]; exact hw1))
  have blw2 : Below w.heap.size w w2 := kc.get.2.2.2.trans (o1.below (by omega))
  rw [size_setCells] at ht1
  have keep2 : Kept (TJ w2 (w.heap.size + 3) w2.heap.size [.slice (some ⟨b3, 0, none⟩) t.L.length t.L.length, .slice (some ⟨b4, 0, none⟩) t.Decs.length t.Decs.length] ([.sl (t.L.map Exp.enc)] ++ [.sl (t.Decs.map Dec.enc)])) := .mk ((keep1.get.1.mono fun k h1 h2 => o1.heap k h2 (by omega)).app ht1)
  obtain ⟨sa0, sa1, sa2, sa3, sa4, sa5⟩ := box6 cb2
  obtain ⟨ta0, ta1, ta2, ta3, ta4, ta5⟩ := box6 ct2
  have tf0 := free_at (i := 4) ct2
  have kc := Kept.mk (And.intro cb2 (And.intro co2 (And.intro ct2 blw2)))
  clear hw1 hb1 ht1 cb2 co2 ct2 o1 blw2
  go_wp2_with fail
  have bel2 : Below w.heap.size w (w2.setCells (w.heap.size + 1 + 1) 4 [.slice (some ⟨b4, 0, none⟩) t.Decs.length t.Decs.length]) := below_setCells (by omega) kc.get.2.2.2
  clear sa0 sa1 sa2 sa3 sa4 sa5 ta0 ta1 ta2 ta3 ta4 ta5 tf0
  -- t.Alts
  refine (ih2 _ v5 (Nat.le_trans kI.get.1 bel2.size) (D.mono kD.get.2.2.1 fun k hk => bel2.block k hk)).mono ?_
  rintro e w3 ⟨r2, rfl, ht2, hb2⟩
  obtain ⟨b5, rfl, _, _⟩ := ht2.one
  rw [List.length_map] at ht2 ⊢
  have hw2 : Below w2.heap.size (w2.setCells (w.heap.size + 1 + 1) 4 [.slice (some ⟨b4, 0, none⟩) t.Decs.length t.Decs.length]) w3 := by
    rw [size_setCells] at hb2
    exact hb2
  have cb3 : w3.heap[w.heap.size]? = some (.cells #[.int .i64 t.K, .string t.S, .int .i64 t.N, v3, v4, v5] 65 (0, 0)) := by
    rw [hw2.block _ (by omega), heap_setCells (by omega)]; exact kc.get.1
  have co3 : w3.heap[w.heap.size + 1]? = some (.cells #[.int .i64 0, .string ⟨#[]⟩, .int .i64 0, .slice none 0 0, .slice none 0 0, .slice none 0 0] 47 (0, 0)) := by
    rw [hw2.block _ (by omega), heap_setCells (by omega)]; exact kc.get.2.1
  have ct3 : w3.heap[w.heap.size + 1 + 1]? = some (.cells #[.int .i64 t.K, .string t.S, .int .i64 t.N, .slice (some ⟨b3, 0, none⟩) t.L.length t.L.length, .slice (some ⟨b4, 0, none⟩) t.Decs.length t.Decs.length, .slice none 0 0] 47 (0, 0)) := by
    rw [hw2.block _ (by omega)]
    exact set_row (us := [.slice (some ⟨b4, 0, none⟩) t.Decs.length t.Decs.length]) (zs := [.slice none 0 0]) (vs := [.int .i64 t.K, .string t.S, .int .i64 t.N, .slice (some ⟨b3, 0, none⟩) t.L.length t.L.length]) (r := [.slice none 0 0]) rfl kc.get.2.2.1
  have z3 : w.heap.size + 3 ≤ w3.heap.size := Nat.le_trans z2 (bel_size hw2)
  have o2 : Out w.heap.size (w.heap.size + 3) w2 w3 := (out_setCells (b := w.heap.size + 1 + 1) (by omega) (by omega)).trans (Out.of_below (by rw [size_setCells]; exact hw2))
  have blw3 : Below w.heap.size w w3 := kc.get.2.2.2.trans (o2.below (by omega))
  rw [size_setCells] at ht2
  have keep3 : Kept (TJ w3 (w.heap.size + 3) w3.heap.size [.slice (some ⟨b3, 0, none⟩) t.L.length t.L.length, .slice (some ⟨b4, 0, none⟩) t.Decs.length t.Decs.length, .slice (some ⟨b5, 0, none⟩) t.Alts.length t.Alts.length] (([.sl (t.L.map Exp.enc)] ++ [.sl (t.Decs.map Dec.enc)]) ++ [.sl (t.Alts.map Alt.enc)])) := .mk ((keep2.get.mono fun k h1 h2 => o2.heap k h2 (by omega)).app ht2)
  obtain ⟨sa0, sa1, sa2, sa3, sa4, sa5⟩ := box6 cb3
  obtain ⟨ta0, ta1, ta2, ta3, ta4, ta5⟩ := box6 ct3
  have tf0 := free_at (i := 5) ct3
  obtain ⟨oa0, oa1, oa2, oa3, oa4, oa5⟩ := box6 co3
  have of0 := free_at (i := 0) co3
  have of1 := free_at (i := 1) co3
  have of2 := free_at (i := 2) co3
  have of3 := free_at (i := 3) co3
  have of4 := free_at (i := 4) co3
  have of5 := free_at (i := 5) co3
  have kc := Kept.mk (And.intro cb3 (And.intro co3 (And.intro ct3 blw3)))
  clear hw2 hb2 ht2 cb3 co3 ct3 o2 blw3
  go_wp2_with fail
  refine bodyPost_ret (v := .agg #[.int .i64 t.K, .string t.S, .int .i64 t.N, .slice (some ⟨b3, 0, none⟩) t.L.length t.L.length, .slice (some ⟨b4, 0, none⟩) t.Decs.length t.Decs.length, .slice (some ⟨b5, 0, none⟩) t.Alts.length t.Alts.length]) ?_ rfl ⟨[.int .i64 t.K, .string t.S, .int .i64 t.N, .slice (some ⟨b3, 0, none⟩) t.L.length t.L.length, .slice (some ⟨b4, 0, none⟩) t.Decs.length t.Decs.length, .slice (some ⟨b5, 0, none⟩) t.Alts.length t.Alts.length], rfl, ?_, ?_⟩
  · simp [results, Go.Proofs.Try.results49, go_sem, cell_set, oa0, oa1, oa2, oa3, oa4, oa5]
  · rw [Exp.encp]
    have of : Out w.heap.size (w.heap.size + 3) w3 ((w3.setCells (w.heap.size + 1 + 1) 5 [.slice (some ⟨b5, 0, none⟩) t.Alts.length t.Alts.length]).setCells (w.heap.size + 1) 0 [.int .i64 t.K, .string t.S, .int .i64 t.N, .slice (some ⟨b3, 0, none⟩) t.L.length t.L.length, .slice (some ⟨b4, 0, none⟩) t.Decs.length t.Decs.length, .slice (some ⟨b5, 0, none⟩) t.Alts.length t.Alts.length]) := (out_setCells (b := w.heap.size + 1 + 1) (by omega) (by omega)).trans (out_setCells (b := w.heap.size + 1) (by omega) (by omega))
    have ht := (keep3.get.mono (w' := ((w3.setCells (w.heap.size + 1 + 1) 5 [.slice (some ⟨b5, 0, none⟩) t.Alts.length t.Alts.length]).setCells (w.heap.size + 1) 0 [.int .i64 t.K, .string t.S, .int .i64 t.N, .slice (some ⟨b3, 0, none⟩) t.L.length t.L.length, .slice (some ⟨b4, 0, none⟩) t.Decs.length t.Decs.length, .slice (some ⟨b5, 0, none⟩) t.Alts.length t.Alts.length])) fun k h1 h2 => of.heap k h2 (by omega)).lower (lo' := w.heap.size) (by omega)
    have hh := ht.hi (hi' := (((w3.setCells (w.heap.size + 1 + 1) 5 [.slice (some ⟨b5, 0, none⟩) t.Alts.length t.Alts.length]).setCells (w.heap.size + 1) 0 [.int .i64 t.K, .string t.S, .int .i64 t.N, .slice (some ⟨b3, 0, none⟩) t.L.length t.L.length, .slice (some ⟨b4, 0, none⟩) t.Decs.length t.Decs.length, .slice (some ⟨b5, 0, none⟩) t.Alts.length t.Alts.length])).heap.size) (by rw [size_setCells, size_setCells]; exact Nat.le_refl _)
    exact .int (.str s1 (.int (hh)))
  · have of : Out w.heap.size (w.heap.size + 3) w3 ((w3.setCells (w.heap.size + 1 + 1) 5 [.slice (some ⟨b5, 0, none⟩) t.Alts.length t.Alts.length]).setCells (w.heap.size + 1) 0 [.int .i64 t.K, .string t.S, .int .i64 t.N, .slice (some ⟨b3, 0, none⟩) t.L.length t.L.length, .slice (some ⟨b4, 0, none⟩) t.Decs.length t.Decs.length, .slice (some ⟨b5, 0, none⟩) t.Alts.length t.Alts.length]) := (out_setCells (b := w.heap.size + 1 + 1) (by omega) (by omega)).trans (out_setCells (b := w.heap.size + 1) (by omega) (by omega))
    exact kc.get.2.2.2.trans (of.below (by omega))
theorem toAlt_own {B : Nat} {t : Alt} {w : World} {v : Value} (hB : B ≤ w.heap.size) (h : D B w (.val v t.enc))
    (ih0 : ∀ (w1 : World) (v1 : Value), B ≤ w1.heap.size → D B w1 (.val v1 (.sl (t.Vars.map HV.str))) → Calls Go.Proofs.Try.prog 48 #[v1] w1 fun e w' => ∃ v' : Value, e = .returned v' ∧ TJ w' w1.heap.size w'.heap.size [v'] [.sl (t.Vars.map HV.str)] ∧ Below w1.heap.size w1 w')
    (ih1 : ∀ (w1 : World) (v1 : Value), B ≤ w1.heap.size → D B w1 (.val v1 t.E.enc) → Calls Go.Proofs.Try.prog 49 #[v1] w1 fun e w' => ∃ us : List Value, e = .returned (.agg us.toArray) ∧ TJ w' w1.heap.size w'.heap.size us t.E.enc.cells ∧ Below w1.heap.size w1 w') :
    Calls Go.Proofs.Try.prog 75 #[v] w fun e w' => ∃ us : List Value, e = .returned (.agg us.toArray) ∧ TJ w' w.heap.size w'.heap.size us t.enc.cells ∧ Below w.heap.size w w' := by
  obtain ⟨us, rfl, hd⟩ := Dv_Alt h
  obtain ⟨v1, v5, v6, v7, rfl, s0, s3, d1, d5, d6, d7⟩ := D_Alt hd
  have kI := Kept.mk (And.intro hB (And.intro h hd))
  have kD := Kept.mk (And.intro d1 (And.intro d5 (And.intro d6 (And.intro d7 trivial))))
  clear hB h hd d1 d5 d6 d7
  go_enter Go.Proofs.Try.func75, Go.Proofs.Try.ntmps75
  go_wp2_with fail
  -- t.Vars
  have bel0 : Below w.heap.size w (((w.alloc (Obj.cells #[.string t.Great, v1, .int .i64 t.E.K, .string t.E.S, .int .i64 t.E.N, v5, v6, v7] 120)).alloc (Obj.cells #[.string ⟨#[]⟩, .slice none 0 0, .int .i64 0, .string ⟨#[]⟩, .int .i64 0, .slice none 0 0, .slice none 0 0, .slice none 0 0] 70)).alloc (Obj.cells #[.string t.Great, .slice none 0 0, .int .i64 0, .string ⟨#[]⟩, .int .i64 0, .slice none 0 0, .slice none 0 0, .slice none 0 0] 70)) := (((Below.refl _ _).alloc (Nat.le_refl _) _).alloc (by simp) _).alloc (by simp; omega) _
  have sz0 : w.heap.size + 3 = ((((w.alloc (Obj.cells #[.string t.Great, v1, .int .i64 t.E.K, .string t.E.S, .int .i64 t.E.N, v5, v6, v7] 120)).alloc (Obj.cells #[.string ⟨#[]⟩, .slice none 0 0, .int .i64 0, .string ⟨#[]⟩, .int .i64 0, .slice none 0 0, .slice none 0 0, .slice none 0 0] 70)).alloc (Obj.cells #[.string t.Great, .slice none 0 0, .int .i64 0, .string ⟨#[]⟩, .int .i64 0, .slice none 0 0, .slice none 0 0, .slice none 0 0] 70))).heap.size := by simp only [World.size_alloc]
  refine (ih0 _ v1 (Nat.le_trans kI.get.1 bel0.size) (D.mono kD.get.1 fun k hk => bel0.block k hk)).mono ?_
  rintro e w1 ⟨r0, rfl, ht0, hb0⟩
  obtain ⟨b1, rfl, _, _⟩ := ht0.one
  rw [List.length_map] at ht0 ⊢
  rw [← sz0] at ht0 hb0
  have cb1 : w1.heap[w.heap.size]? = some (.cells #[.string t.Great, v1, .int .i64 t.E.K, .string t.E.S, .int .i64 t.E.N, v5, v6, v7] 120 (0, 0)) := by
    rw [hb0.block _ (by omega), Below.heap_alloc _ _ _ (by simp; omega), Below.heap_alloc _ _ _ (by simp)]; exact alloc_at rfl
  have co1 : w1.heap[w.heap.size + 1]? = some (.cells #[.string ⟨#[]⟩, .slice none 0 0, .int .i64 0, .string ⟨#[]⟩, .int .i64 0, .slice none 0 0, .slice none 0 0, .slice none 0 0] 70 (0, 0)) := by
    rw [hb0.block _ (by omega), Below.heap_alloc _ _ _ (by simp)]; exact alloc_at (by simp)
  have ct1 : w1.heap[w.heap.size + 1 + 1]? = some (.cells #[.string t.Great, .slice none 0 0, .int .i64 0, .string ⟨#[]⟩, .int .i64 0, .slice none 0 0, .slice none 0 0, .slice none 0 0] 70 (0, 0)) := by
    rw [hb0.block _ (by omega)]; exact alloc_at (by simp)
  have z1 : w.heap.size + 3 ≤ w1.heap.size := Nat.le_trans (Nat.le_of_eq sz0) hb0.size
  have blw1 : Below w.heap.size w w1 := bel0.trans (hb0.mono (by omega))
  have keep1 : Kept (TJ w1 (w.heap.size + 3) w1.heap.size [.slice (some ⟨b1, 0, none⟩) t.Vars.length t.Vars.length] [.sl (t.Vars.map HV.str)] ∧ True) := .mk ⟨ht0, trivial⟩
  obtain ⟨sa0, sa1, sa2, sa3, sa4, sa5, sa6, sa7⟩ := box8 cb1
  obtain ⟨ta0, ta1, ta2, ta3, ta4, ta5, ta6, ta7⟩ := box8 ct1
  have tf0 := free_at (i := 1) ct1
  have kc := Kept.mk (And.intro cb1 (And.intro co1 (And.intro ct1 blw1)))
  clear bel0 sz0 hb0 ht0 cb1 co1 ct1 blw1
  go_wp2_with fail
  have bel1 : Below w.heap.size w (w1.setCells (w.heap.size + 1 + 1) 1 [.slice (some ⟨b1, 0, none⟩) t.Vars.length t.Vars.length]) := below_setCells (by omega) kc.get.2.2.2
  clear sa0 sa1 sa2 sa3 sa4 sa5 sa6 sa7 ta0 ta1 ta2 ta3 ta4 ta5 ta6 ta7 tf0
  -- t.E
  refine (ih1 _ (.agg #[.int .i64 t.E.K, .string t.E.S, .int .i64 t.E.N, v5, v6, v7]) (Nat.le_trans kI.get.1 bel1.size) (D.mono (sub_Alt_E kI.get.2.2) fun k hk => bel1.block k hk)).mono ?_
  rintro e w2 ⟨us1, rfl, ht1, hb1⟩
  obtain ⟨b5, m5, b6, m6, b7, m7, rfl, _, _, _, _⟩ := TJ_Exp ht1
  have hw1 : Below w1.heap.size (w1.setCells (w.heap.size + 1 + 1) 1 [.slice (some ⟨b1, 0, none⟩) t.Vars.length t.Vars.length]) w2 := by
    rw [size_setCells] at hb1
    exact hb1
  have cb2 : w2.heap[w.heap.size]? = some (.cells #[.string t.Great, v1, .int .i64 t.E.K, .string t.E.S, .int .i64 t.E.N, v5, v6, v7] 120 (0, 0)) := by
    rw [hw1.block _ (by omega), heap_setCells (by omega)]; exact kc.get.1
  have co2 : w2.heap[w.heap.size + 1]? = some (.cells #[.string ⟨#[]⟩, .slice none 0 0, .int .i64 0, .string ⟨#[]⟩, .int .i64 0, .slice none 0 0, .slice none 0 0, .slice none 0 0] 70 (0, 0)) := by
    rw [hw1.block _ (by omega), heap_setCells (by omega)]; exact kc.get.2.1
  have ct2 : w2.heap[w.heap.size + 1 + 1]? = some (.cells #[.string t.Great, .slice (some ⟨b1, 0, none⟩) t.Vars.length t.Vars.length, .int .i64 0, .string ⟨#[]⟩, .int .i64 0, .slice none 0 0, .slice none 0 0, .slice none 0 0] 70 (0, 0)) := by
    rw [hw1.block _ (by omega)]
    exact set_row (us := [.slice (some ⟨b1, 0, none⟩) t.Vars.length t.Vars.length]) (zs := [.slice none 0 0]) (vs := [.string t.Great]) (r := [.int .i64 0, .string ⟨#[]⟩, .int .i64 0, .slice none 0 0, .slice none 0 0, .slice none 0 0]) rfl kc.get.2.2.1
  have z2 : w.heap.size + 3 ≤ w2.heap.size := Nat.le_trans z1 (bel_size hw1)
  have o1 : Out w.heap.size (w.heap.size + 3) w1 w2 := (out_setCells (b := w.heap.size + 1 + 1) (by omega) (by omega)).trans (Out.of_below (by rw [size_setCells]; exact hw1))
  have blw2 : Below w.heap.size w w2 := kc.get.2.2.2.trans (o1.below (by omega))
  rw [size_setCells] at ht1
  have keep2 : Kept (TJ w2 (w.heap.size + 3) w2.heap.size [.slice (some ⟨b1, 0, none⟩) t.Vars.length t.Vars.length, .int .i64 t.E.K, .string t.E.S, .int .i64 t.E.N, .slice (some ⟨b5, 0, none⟩) t.E.L.length t.E.L.length, .slice (some ⟨b6, 0, none⟩) t.E.Decs.length t.E.Decs.length, .slice (some ⟨b7, 0, none⟩) t.E.Alts.length t.E.Alts.length] ([.sl (t.Vars.map HV.str)] ++ t.E.enc.cells)) := .mk ((keep1.get.1.mono fun k h1 h2 => o1.heap k h2 (by omega)).app ht1)
  obtain ⟨sa0, sa1, sa2, sa3, sa4, sa5, sa6, sa7⟩ := box8 cb2
  obtain ⟨ta0, ta1, ta2, ta3, ta4, ta5, ta6, ta7⟩ := box8 ct2
  have tf0 := free_at (i := 2) ct2
  have tf1 := free_at (i := 3) ct2
  have tf2 := free_at (i := 4) ct2
  have tf3 := free_at (i := 5) ct2
  have tf4 := free_at (i := 6) ct2
  have tf5 := free_at (i := 7) ct2
  obtain ⟨oa0, oa1, oa2, oa3, oa4, oa5, oa6, oa7⟩ := box8 co2
  have of0 := free_at (i := 0) co2
  have of1 := free_at (i := 1) co2
  have of2 := free_at (i := 2) co2
  have of3 := free_at (i := 3) co2
  have of4 := free_at (i := 4) co2
  have of5 := free_at (i := 5) co2
  have of6 := free_at (i := 6) co2
  have of7 := free_at (i := 7) co2
  have kc := Kept.mk (And.intro cb2 (And.intro co2 (And.intro ct2 blw2)))
  clear hw1 hb1 ht1 cb2 co2 ct2 o1 blw2
  go_wp2_with fail
  refine bodyPost_ret (v := .agg #[.string t.Great, .slice (some ⟨b1, 0, none⟩) t.Vars.length t.Vars.length, .int .i64 t.E.K, .string t.E.S, .int .i64 t.E.N, .slice (some ⟨b5, 0, none⟩) t.E.L.length t.E.L.length, .slice (some ⟨b6, 0, none⟩) t.E.Decs.length t.E.Decs.length, .slice (some ⟨b7, 0, none⟩) t.E.Alts.length t.E.Alts.length]) ?_ rfl ⟨[.string t.Great, .slice (some ⟨b1, 0, none⟩) t.Vars.length t.Vars.length, .int .i64 t.E.K, .string t.E.S, .int .i64 t.E.N, .slice (some ⟨b5, 0, none⟩) t.E.L.length t.E.L.length, .slice (some ⟨b6, 0, none⟩) t.E.Decs.length t.E.Decs.length, .slice (some ⟨b7, 0, none⟩) t.E.Alts.length t.E.Alts.length], rfl, ?_, ?_⟩
  · simp [results, Go.Proofs.Try.results75, go_sem, cell_set, oa0, oa1, oa2, oa3, oa4, oa5, oa6, oa7]
  · rw [Alt.encp]
    have of : Out w.heap.size (w.heap.size + 3) w2 ((w2.setCells (w.heap.size + 1 + 1) 2 [.int .i64 t.E.K, .string t.E.S, .int .i64 t.E.N, .slice (some ⟨b5, 0, none⟩) t.E.L.length t.E.L.length, .slice (some ⟨b6, 0, none⟩) t.E.Decs.length t.E.Decs.length, .slice (some ⟨b7, 0, none⟩) t.E.Alts.length t.E.Alts.length]).setCells (w.heap.size + 1) 0 [.string t.Great, .slice (some ⟨b1, 0, none⟩) t.Vars.length t.Vars.length, .int .i64 t.E.K, .string t.E.S, .int .i64 t.E.N, .slice (some ⟨b5, 0, none⟩) t.E.L.length t.E.L.length, .slice (some ⟨b6, 0, none⟩) t.E.Decs.length t.E.Decs.length, .slice (some ⟨b7, 0, none⟩) t.E.Alts.length t.E.Alts.length]) := (out_setCells (b := w.heap.size + 1 + 1) (by omega) (by omega)).trans (out_setCells (b := w.heap.size + 1) (by omega) (by omega))
    have ht := (keep2.get.mono (w' := ((w2.setCells (w.heap.size + 1 + 1) 2 [.int .i64 t.E.K, .string t.E.S, .int .i64 t.E.N, .slice (some ⟨b5, 0, none⟩) t.E.L.length t.E.L.length, .slice (some ⟨b6, 0, none⟩) t.E.Decs.length t.E.Decs.length, .slice (some ⟨b7, 0, none⟩) t.E.Alts.length t.E.Alts.length]).setCells (w.heap.size + 1) 0 [.string t.Great, .slice (some ⟨b1, 0, none⟩) t.Vars.length t.Vars.length, .int .i64 t.E.K, .string t.E.S, .int .i64 t.E.N, .slice (some ⟨b5, 0, none⟩) t.E.L.length t.E.L.length, .slice (some ⟨b6, 0, none⟩) t.E.Decs.length t.E.Decs.length, .slice (some ⟨b7, 0, none⟩) t.E.Alts.length t.E.Alts.length])) fun k h1 h2 => of.heap k h2 (by omega)).lower (lo' := w.heap.size) (by omega)
    have hh := ht.hi (hi' := (((w2.setCells (w.heap.size + 1 + 1) 2 [.int .i64 t.E.K, .string t.E.S, .int .i64 t.E.N, .slice (some ⟨b5, 0, none⟩) t.E.L.length t.E.L.length, .slice (some ⟨b6, 0, none⟩) t.E.Decs.length t.E.Decs.length, .slice (some ⟨b7, 0, none⟩) t.E.Alts.length t.E.Alts.length]).setCells (w.heap.size + 1) 0 [.string t.Great, .slice (some ⟨b1, 0, none⟩) t.Vars.length t.Vars.length, .int .i64 t.E.K, .string t.E.S, .int .i64 t.E.N, .slice (some ⟨b5, 0, none⟩) t.E.L.length t.E.L.length, .slice (some ⟨b6, 0, none⟩) t.E.Decs.length t.E.Decs.length, .slice (some ⟨b7, 0, none⟩) t.E.Alts.length t.E.Alts.length])).heap.size) (by rw [size_setCells, size_setCells]; exact Nat.le_refl _)
    rw [Exp.encp] at hh
    exact .str s0 (hh)
  · have of : Out w.heap.size (w.heap.size + 3) w2 ((w2.setCells (w.heap.size + 1 + 1) 2 [.int .i64 t.E.K, .string t.E.S, .int .i64 t.E.N, .slice (some ⟨b5, 0, none⟩) t.E.L.length t.E.L.length, .slice (some ⟨b6, 0, none⟩) t.E.Decs.length t.E.Decs.length, .slice (some ⟨b7, 0, none⟩) t.E.Alts.length t.E.Alts.length]).setCells (w.heap.size + 1) 0 [.string t.Great, .slice (some ⟨b1, 0, none⟩) t.Vars.length t.Vars.length, .int .i64 t.E.K, .string t.E.S, .int .i64 t.E.N, .slice (some ⟨b5, 0, none⟩) t.E.L.length t.E.L.length, .slice (some ⟨b6, 0, none⟩) t.E.Decs.length t.E.Decs.length, .slice (some ⟨b7, 0, none⟩) t.E.Alts.length t.E.Alts.length]) := (out_setCells (b := w.heap.size + 1 + 1) (by omega) (by omega)).trans (out_setCells (b := w.heap.size + 1) (by omega) (by omega))
    exact kc.get.2.2.2.trans (of.below (by omega))
theorem toDec_own {B : Nat} {t : Dec} {w : World} {v : Value} (hB : B ≤ w.heap.size) (h : D B w (.val v t.enc))
    (ih0 : ∀ (w1 : World) (v1 : Value), B ≤ w1.heap.size → D B w1 (.val v1 (.sl (t.Pars.map HV.str))) → Calls Go.Proofs.Try.prog 48 #[v1] w1 fun e w' => ∃ v' : Value, e = .returned v' ∧ TJ w' w1.heap.size w'.heap.size [v'] [.sl (t.Pars.map HV.str)] ∧ Below w1.heap.size w1 w')
    (ih1 : ∀ (w1 : World) (v1 : Value), B ≤ w1.heap.size → D B w1 (.val v1 t.E.enc) → Calls Go.Proofs.Try.prog 49 #[v1] w1 fun e w' => ∃ us : List Value, e = .returned (.agg us.toArray) ∧ TJ w' w1.heap.size w'.heap.size us t.E.enc.cells ∧ Below w1.heap.size w1 w')
    (ih2 : ∀ (w1 : World) (v1 : Value), B ≤ w1.heap.size → D B w1 (.val v1 (.sl (t.Where.map Dec.enc))) → Calls Go.Proofs.Try.prog 20 #[v1] w1 fun e w' => ∃ v' : Value, e = .returned v' ∧ TJ w' w1.heap.size w'.heap.size [v'] [.sl (t.Where.map Dec.enc)] ∧ Below w1.heap.size w1 w') :
    Calls Go.Proofs.Try.prog 32 #[v] w fun e w' => ∃ us : List Value, e = .returned (.agg us.toArray) ∧ TJ w' w.heap.size w'.heap.size us t.enc.cells ∧ Below w.heap.size w w' := by
  obtain ⟨us, rfl, hd⟩ := Dv_Dec h
  obtain ⟨v1, v5, v6, v7, v8, rfl, s0, s3, d1, d5, d6, d7, d8⟩ := D_Dec hd
  have kI := Kept.mk (And.intro hB (And.intro h hd))
  have kD := Kept.mk (And.intro d1 (And.intro d5 (And.intro d6 (And.intro d7 (And.intro d8 trivial)))))
  clear hB h hd d1 d5 d6 d7 d8
  go_enter Go.Proofs.Try.func32, Go.Proofs.Try.ntmps32
  go_wp2_with fail
  -- t.Pars
  have bel0 : Below w.heap.size w (((w.alloc (Obj.cells #[.string t.Name, v1, .int .i64 t.E.K, .string t.E.S, .int .i64 t.E.N, v5, v6, v7, v8] 67)).alloc (Obj.cells #[.string ⟨#[]⟩, .slice none 0 0, .int .i64 0, .string ⟨#[]⟩, .int .i64 0, .slice none 0 0, .slice none 0 0, .slice none 0 0, .slice none 0 0] 49)).alloc (Obj.cells #[.string t.Name, .slice none 0 0, .int .i64 0, .string ⟨#[]⟩, .int .i64 0, .slice none 0 0, .slice none 0 0, .slice none 0 0, .slice none 0 0] 49)) := (((Below.refl _ _).alloc (Nat.le_refl _) _).alloc (by simp) _).alloc (by simp; omega) _
  have sz0 : w.heap.size + 3 = ((((w.alloc (Obj.cells #[.string t.Name, v1, .int .i64 t.E.K, .string t.E.S, .int .i64 t.E.N, v5, v6, v7, v8] 67)).alloc (Obj.cells #[.string ⟨#[]⟩, .slice none 0 0, .int .i64 0, .string ⟨#[]⟩, .int .i64 0, .slice none 0 0, .slice none 0 0, .slice none 0 0, .slice none 0 0] 49)).alloc (Obj.cells #[.string t.Name, .slice none 0 0, .int .i64 0, .string ⟨#[]⟩, .int .i64 0, .slice none 0 0, .slice none 0 0, .slice none 0 0, .slice none 0 0] 49))).heap.size := by simp only [World.size_alloc]
  refine (ih0 _ v1 (Nat.le_trans kI.get.1 bel0.size) (D.mono kD.get.1 fun k hk => bel0.block k hk)).mono ?_
  rintro e w1 ⟨r0, rfl, ht0, hb0⟩
  obtain ⟨b1, rfl, _, _⟩ := ht0.one
  rw [List.length_map] at ht0 ⊢
  rw [← sz0] at ht0 hb0
  have cb1 : w1.heap[w.heap.size]? = some (.cells #[.string t.Name, v1, .int .i64 t.E.K, .string t.E.S, .int .i64 t.E.N, v5, v6, v7, v8] 67 (0, 0)) := by
    rw [hb0.block _ (by omega), Below.heap_alloc _ _ _ (by simp; omega), Below.heap_alloc _ _ _ (by simp)]; exact alloc_at rfl
  have co1 : w1.heap[w.heap.size + 1]? = some (.cells #[.string ⟨#[]⟩, .slice none 0 0, .int .i64 0, .string ⟨#[]⟩, .int .i64 0, .slice none 0 0, .slice none 0 0, .slice none 0 0, .slice none 0 0] 49 (0, 0)) := by
    rw [hb0.block _ (by omega), Below.heap_alloc _ _ _ (by simp)]; exact alloc_at (by simp)
  have ct1 : w1.heap[w.heap.size + 1 + 1]? = some (.cells #[.string t.Name, .slice none 0 0, .int .i64 0, .string ⟨#[]⟩, .int .i64 0, .slice none 0 0, .slice none 0 0, .slice none 0 0, .slice none 0 0] 49 (0, 0)) := by
    rw [hb0.block _ (by omega)]; exact alloc_at (by simp)
  have z1 : w.heap.size + 3 ≤ w1.heap.size := Nat.le_trans (Nat.le_of_eq sz0) hb0.size
  have blw1 : Below w.heap.size w w1 := bel0.trans (hb0.mono (by omega))
  have keep1 : Kept (TJ w1 (w.heap.size + 3) w1.heap.size [.slice (some ⟨b1, 0, none⟩) t.Pars.length t.Pars.length] [.sl (t.Pars.map HV.str)] ∧ True) := .mk ⟨ht0, trivial⟩
  obtain ⟨sa0, sa1, sa2, sa3, sa4, sa5, sa6, sa7, sa8⟩ := box9 cb1
  obtain ⟨ta0, ta1, ta2, ta3, ta4, ta5, ta6, ta7, ta8⟩ := box9 ct1
  have tf0 := free_at (i := 1) ct1
  have kc := Kept.mk (And.intro cb1 (And.intro co1 (And.intro ct1 blw1)))
  clear bel0 sz0 hb0 ht0 cb1 co1 ct1 blw1
  go_wp2_with fail
  have bel1 : Below w.heap.size w (w1.setCells (w.heap.size + 1 + 1) 1 [.slice (some ⟨b1, 0, none⟩) t.Pars.length t.Pars.length]) := below_setCells (by omega) kc.get.2.2.2
  clear sa0 sa1 sa2 sa3 sa4 sa5 sa6 sa7 sa8 ta0 ta1 ta2 ta3 ta4 ta5 ta6 ta7 ta8 tf0
  -- t.E
  refine (ih1 _ (.agg #[.int .i64 t.E.K, .string t.E.S, .int .i64 t.E.N, v5, v6, v7]) (Nat.le_trans kI.get.1 bel1.size) (D.mono (sub_Dec_E kI.get.2.2) fun k hk => bel1.block k hk)).mono ?_
  rintro e w2 ⟨us1, rfl, ht1, hb1⟩
  obtain ⟨b5, m5, b6, m6, b7, m7, rfl, _, _, _, _⟩ := TJ_Exp ht1
  have hw1 : Below w1.heap.size (w1.setCells (w.heap.size + 1 + 1) 1 [.slice (some ⟨b1, 0, none⟩) t.Pars.length t.Pars.length]) w2 := by
    rw [size_setCells] at hb1
    exact hb1
  have cb2 : w2.heap[w.heap.size]? = some (.cells #[.string t.Name, v1, .int .i64 t.E.K, .string t.E.S, .int .i64 t.E.N, v5, v6, v7, v8] 67 (0, 0)) := by
    rw [hw1.block _ (by omega), heap_setCells (by omega)]; exact kc.get.1
  have co2 : w2.heap[w.heap.size + 1]? = some (.cells #[.string ⟨#[]⟩, .slice none 0 0, .int .i64 0, .string ⟨#[]⟩, .int .i64 0, .slice none 0 0, .slice none 0 0, .slice none 0 0, .slice none 0 0] 49 (0, 0)) := by
    rw [hw1.block _ (by omega), heap_setCells (by omega)]; exact kc.get.2.1
  have ct2 : w2.heap[w.heap.size + 1 + 1]? = some (.cells #[.string t.Name, .slice (some ⟨b1, 0, none⟩) t.Pars.length t.Pars.length, .int .i64 0, .string ⟨#[]⟩, .int .i64 0, .slice none 0 0, .slice none 0 0, .slice none 0 0, .slice none 0 0] 49 (0, 0)) := by
    rw [hw1.block _ (by omega)]
    exact set_row (us := [.slice (some ⟨b1, 0, none⟩) t.Pars.length t.Pars.length]) (zs := [.slice none 0 0]) (vs := [.string t.Name]) (r := [.int .i64 0, .string ⟨#[]⟩, .int .i64 0, .slice none 0 0, .slice none 0 0, .slice none 0 0, .slice none 0 0]) rfl kc.get.2.2.1
  have z2 : w.heap.size + 3 ≤ w2.heap.size := Nat.le_trans z1 (bel_size hw1)
  have o1 : Out w.heap.size (w.heap.size + 3) w1 w2 := (out_setCells (b := w.heap.size + 1 + 1) (by omega) (by omega)).trans (Out.of_below (by rw [size_setCells]; exact hw1))
  have blw2 : Below w.heap.size w w2 := kc.get.2.2.2.trans (o1.below (by omega))
  rw [size_setCells] at ht1
  have keep2 : Kept (TJ w2 (w.heap.size + 3) w2.heap.size [.slice (some ⟨b1, 0, none⟩) t.Pars.length t.Pars.length, .int .i64 t.E.K, .string t.E.S, .int .i64 t.E.N, .slice (some ⟨b5, 0, none⟩) t.E.L.length t.E.L.length, .slice (some ⟨b6, 0, none⟩) t.E.Decs.length t.E.Decs.length, .slice (some ⟨b7, 0, none⟩) t.E.Alts.length t.E.Alts.length] ([.sl (t.Pars.map HV.str)] ++ t.E.enc.cells)) := .mk ((keep1.get.1.mono fun k h1 h2 => o1.heap k h2 (by omega)).app ht1)
  obtain ⟨sa0, sa1, sa2, sa3, sa4, sa5, sa6, sa7, sa8⟩ := box9 cb2
  obtain ⟨ta0, ta1, ta2, ta3, ta4, ta5, ta6, ta7, ta8⟩ := box9 ct2
  have tf0 := free_at (i := 2) ct2
  have tf1 := free_at (i := 3) ct2
  have tf2 := free_at (i := 4) ct2
  have tf3 := free_at (i := 5) ct2
  have tf4 := free_at (i := 6) ct2
  have tf5 := free_at (i := 7) ct2
  have kc := Kept.mk (And.intro cb2 (And.intro co2 (And.intro ct2 blw2)))
  clear hw1 hb1 ht1 cb2 co2 ct2 o1 blw2
  go_wp2_with fail
  have bel2 : Below w.heap.size w (w2.setCells (w.heap.size + 1 + 1) 2 [.int .i64 t.E.K, .string t.E.S, .int .i64 t.E.N, .slice (some ⟨b5, 0, none⟩) t.E.L.length t.E.L.length, .slice (some ⟨b6, 0, none⟩) t.E.Decs.length t.E.Decs.length, .slice (some ⟨b7, 0, none⟩) t.E.Alts.length t.E.Alts.length]) := below_setCells (by omega) kc.get.2.2.2
  clear sa0 sa1 sa2 sa3 sa4 sa5 sa6 sa7 sa8 ta0 ta1 ta2 ta3 ta4 ta5 ta6 ta7 ta8 tf0 tf1 tf2 tf3 tf4 tf5
  -- t.Where
  refine (ih2 _ v8 (Nat.le_trans kI.get.1 bel2.size) (D.mono kD.get.2.2.2.2.1 fun k hk => bel2.block k hk)).mono ?_
  rintro e w3 ⟨r2, rfl, ht2, hb2⟩
  obtain ⟨b8, rfl, _, _⟩ := ht2.one
  rw [List.length_map] at ht2 ⊢
  have hw2 : Below w2.heap.size (w2.setCells (w.heap.size + 1 + 1) 2 [.int .i64 t.E.K, .string t.E.S, .int .i64 t.E.N, .slice (some ⟨b5, 0, none⟩) t.E.L.length t.E.L.length, .slice (some ⟨b6, 0, none⟩) t.E.Decs.length t.E.Decs.length, .slice (some ⟨b7, 0, none⟩) t.E.Alts.length t.E.Alts.length]) w3 := by
    rw [size_setCells] at hb2
    exact hb2
  have cb3 : w3.heap[w.heap.size]? = some (.cells #[.string t.Name, v1, .int .i64 t.E.K, .string t.E.S, .int .i64 t.E.N, v5, v6, v7, v8] 67 (0, 0)) := by
    rw [hw2.block _ (by omega), heap_setCells (by omega)]; exact kc.get.1
  have co3 : w3.heap[w.heap.size + 1]? = some (.cells #[.string ⟨#[]⟩, .slice none 0 0, .int .i64 0, .string ⟨#[]⟩, .int .i64 0, .slice none 0 0, .slice none 0 0, .slice none 0 0, .slice none 0 0] 49 (0, 0)) := by
    rw [hw2.block _ (by omega), heap_setCells (by omega)]; exact kc.get.2.1
  have ct3 : w3.heap[w.heap.size + 1 + 1]? = some (.cells #[.string t.Name, .slice (some ⟨b1, 0, none⟩) t.Pars.length t.Pars.length, .int .i64 t.E.K, .string t.E.S, .int .i64 t.E.N, .slice (some ⟨b5, 0, none⟩) t.E.L.length t.E.L.length, .slice (some ⟨b6, 0, none⟩) t.E.Decs.length t.E.Decs.length, .slice (some ⟨b7, 0, none⟩) t.E.Alts.length t.E.Alts.length, .slice none 0 0] 49 (0, 0)) := by
    rw [hw2.block _ (by omega)]
    exact set_row (us := [.int .i64 t.E.K, .string t.E.S, .int .i64 t.E.N, .slice (some ⟨b5, 0, none⟩) t.E.L.length t.E.L.length, .slice (some ⟨b6, 0, none⟩) t.E.Decs.length t.E.Decs.length, .slice (some ⟨b7, 0, none⟩) t.E.Alts.length t.E.Alts.length]) (zs := [.int .i64 0, .string ⟨#[]⟩, .int .i64 0, .slice none 0 0, .slice none 0 0, .slice none 0 0]) (vs := [.string t.Name, .slice (some ⟨b1, 0, none⟩) t.Pars.length t.Pars.length]) (r := [.slice none 0 0]) rfl kc.get.2.2.1
  have z3 : w.heap.size + 3 ≤ w3.heap.size := Nat.le_trans z2 (bel_size hw2)
  have o2 : Out w.heap.size (w.heap.size + 3) w2 w3 := (out_setCells (b := w.heap.size + 1 + 1) (by omega) (by omega)).trans (Out.of_below (by rw [size_setCells]; exact hw2))
  have blw3 : Below w.heap.size w w3 := kc.get.2.2.2.trans (o2.below (by omega))
  rw [size_setCells] at ht2
  have keep3 : Kept (TJ w3 (w.heap.size + 3) w3.heap.size [.slice (some ⟨b1, 0, none⟩) t.Pars.length t.Pars.length, .int .i64 t.E.K, .string t.E.S, .int .i64 t.E.N, .slice (some ⟨b5, 0, none⟩) t.E.L.length t.E.L.length, .slice (some ⟨b6, 0, none⟩) t.E.Decs.length t.E.Decs.length, .slice (some ⟨b7, 0, none⟩) t.E.Alts.length t.E.Alts.length, .slice (some ⟨b8, 0, none⟩) t.Where.length t.Where.length] (([.sl (t.Pars.map HV.str)] ++ t.E.enc.cells) ++ [.sl (t.Where.map Dec.enc)])) := .mk ((keep2.get.mono fun k h1 h2 => o2.heap k h2 (by omega)).app ht2)
  obtain ⟨sa0, sa1, sa2, sa3, sa4, sa5, sa6, sa7, sa8⟩ := box9 cb3
  obtain ⟨ta0, ta1, ta2, ta3, ta4, ta5, ta6, ta7, ta8⟩ := box9 ct3
  have tf0 := free_at (i := 8) ct3
  obtain ⟨oa0, oa1, oa2, oa3, oa4, oa5, oa6, oa7, oa8⟩ := box9 co3
  have of0 := free_at (i := 0) co3
  have of1 := free_at (i := 1) co3
  have of2 := free_at (i := 2) co3
  have of3 := free_at (i := 3) co3
  have of4 := free_at (i := 4) co3
  have of5 := free_at (i := 5) co3
  have of6 := free_at (i := 6) co3
  have of7 := free_at (i := 7) co3
  have of8 := free_at (i := 8) co3
  have kc := Kept.mk (And.intro cb3 (And.intro co3 (And.intro ct3 blw3)))
  clear hw2 hb2 ht2 cb3 co3 ct3 o2 blw3
  go_wp2_with fail
  refine bodyPost_ret (v := .agg #[.string t.Name, .slice (some ⟨b1, 0, none⟩) t.Pars.length t.Pars.length, .int .i64 t.E.K, .string t.E.S, .int .i64 t.E.N, .slice (some ⟨b5, 0, none⟩) t.E.L.length t.E.L.length, .slice (some ⟨b6, 0, none⟩) t.E.Decs.length t.E.Decs.length, .slice (some ⟨b7, 0, none⟩) t.E.Alts.length t.E.Alts.length, .slice (some ⟨b8, 0, none⟩) t.Where.length t.Where.length]) ?_ rfl ⟨[.string t.Name, .slice (some ⟨b1, 0, none⟩) t.Pars.length t.Pars.length, .int .i64 t.E.K, .string t.E.S, .int .i64 t.E.N, .slice (some ⟨b5, 0, none⟩) t.E.L.length t.E.L.length, .slice (some ⟨b6, 0, none⟩) t.E.Decs.length t.E.Decs.length, .slice (some ⟨b7, 0, none⟩) t.E.Alts.length t.E.Alts.length, .slice (some ⟨b8, 0, none⟩) t.Where.length t.Where.length], rfl, ?_, ?_⟩
  · simp [results, Go.Proofs.Try.results32, go_sem, cell_set, oa0, oa1, oa2, oa3, oa4, oa5, oa6, oa7, oa8]
  · rw [Dec.encp]
    have of : Out w.heap.size (w.heap.size + 3) w3 ((w3.setCells (w.heap.size + 1 + 1) 8 [.slice (some ⟨b8, 0, none⟩) t.Where.length t.Where.length]).setCells (w.heap.size + 1) 0 [.string t.Name, .slice (some ⟨b1, 0, none⟩) t.Pars.length t.Pars.length, .int .i64 t.E.K, .string t.E.S, .int .i64 t.E.N, .slice (some ⟨b5, 0, none⟩) t.E.L.length t.E.L.length, .slice (some ⟨b6, 0, none⟩) t.E.Decs.length t.E.Decs.length, .slice (some ⟨b7, 0, none⟩) t.E.Alts.length t.E.Alts.length, .slice (some ⟨b8, 0, none⟩) t.Where.length t.Where.length]) := (out_setCells (b := w.heap.size + 1 + 1) (by omega) (by omega)).trans (out_setCells (b := w.heap.size + 1) (by omega) (by omega))
    have ht := (keep3.get.mono (w' := ((w3.setCells (w.heap.size + 1 + 1) 8 [.slice (some ⟨b8, 0, none⟩) t.Where.length t.Where.length]).setCells (w.heap.size + 1) 0 [.string t.Name, .slice (some ⟨b1, 0, none⟩) t.Pars.length t.Pars.length, .int .i64 t.E.K, .string t.E.S, .int .i64 t.E.N, .slice (some ⟨b5, 0, none⟩) t.E.L.length t.E.L.length, .slice (some ⟨b6, 0, none⟩) t.E.Decs.length t.E.Decs.length, .slice (some ⟨b7, 0, none⟩) t.E.Alts.length t.E.Alts.length, .slice (some ⟨b8, 0, none⟩) t.Where.length t.Where.length])) fun k h1 h2 => of.heap k h2 (by omega)).lower (lo' := w.heap.size) (by omega)
    have hh := ht.hi (hi' := (((w3.setCells (w.heap.size + 1 + 1) 8 [.slice (some ⟨b8, 0, none⟩) t.Where.length t.Where.length]).setCells (w.heap.size + 1) 0 [.string t.Name, .slice (some ⟨b1, 0, none⟩) t.Pars.length t.Pars.length, .int .i64 t.E.K, .string t.E.S, .int .i64 t.E.N, .slice (some ⟨b5, 0, none⟩) t.E.L.length t.E.L.length, .slice (some ⟨b6, 0, none⟩) t.E.Decs.length t.E.Decs.length, .slice (some ⟨b7, 0, none⟩) t.E.Alts.length t.E.Alts.length, .slice (some ⟨b8, 0, none⟩) t.Where.length t.Where.length])).heap.size) (by rw [size_setCells, size_setCells]; exact Nat.le_refl _)
    rw [Exp.encp] at hh
    exact .str s0 (hh)
  · have of : Out w.heap.size (w.heap.size + 3) w3 ((w3.setCells (w.heap.size + 1 + 1) 8 [.slice (some ⟨b8, 0, none⟩) t.Where.length t.Where.length]).setCells (w.heap.size + 1) 0 [.string t.Name, .slice (some ⟨b1, 0, none⟩) t.Pars.length t.Pars.length, .int .i64 t.E.K, .string t.E.S, .int .i64 t.E.N, .slice (some ⟨b5, 0, none⟩) t.E.L.length t.E.L.length, .slice (some ⟨b6, 0, none⟩) t.E.Decs.length t.E.Decs.length, .slice (some ⟨b7, 0, none⟩) t.E.Alts.length t.E.Alts.length, .slice (some ⟨b8, 0, none⟩) t.Where.length t.Where.length]) := (out_setCells (b := w.heap.size + 1 + 1) (by omega) (by omega)).trans (out_setCells (b := w.heap.size + 1) (by omega) (by omega))
    exact kc.get.2.2.2.trans (of.below (by omega))
theorem toProg_own {B : Nat} {t : Prog} {w : World} {v : Value} (hB : B ≤ w.heap.size) (h : D B w (.val v t.enc))
    (ih0 : ∀ (w1 : World) (v1 : Value), B ≤ w1.heap.size → D B w1 (.val v1 (.sl (t.Datas.map Data.enc))) → Calls Go.Proofs.Try.prog 19 #[v1] w1 fun e w' => ∃ v' : Value, e = .returned v' ∧ TJ w' w1.heap.size w'.heap.size [v'] [.sl (t.Datas.map Data.enc)] ∧ Below w1.heap.size w1 w')
    (ih1 : ∀ (w1 : World) (v1 : Value), B ≤ w1.heap.size → D B w1 (.val v1 (.sl (t.Decs.map Dec.enc))) → Calls Go.Proofs.Try.prog 20 #[v1] w1 fun e w' => ∃ v' : Value, e = .returned v' ∧ TJ w' w1.heap.size w'.heap.size [v'] [.sl (t.Decs.map Dec.enc)] ∧ Below w1.heap.size w1 w') :
    Calls Go.Proofs.Try.prog 6 #[v] w fun e w' => ∃ us : List Value, e = .returned (.agg us.toArray) ∧ TJ w' w.heap.size w'.heap.size us t.enc.cells ∧ Below w.heap.size w w' := by
  obtain ⟨us, rfl, hd⟩ := Dv_Prog h
  obtain ⟨v0, v1, rfl, d0, d1⟩ := D_Prog hd
  have kI := Kept.mk (And.intro hB (And.intro h hd))
  have kD := Kept.mk (And.intro d0 (And.intro d1 trivial))
  clear hB h hd d0 d1
  go_enter Go.Proofs.Try.func6, Go.Proofs.Try.ntmps6
  go_wp2_with fail
  -- t.Datas
  have bel0 : Below w.heap.size w (((w.alloc (Obj.cells #[v0, v1] 25)).alloc (Obj.cells #[.slice none 0 0, .slice none 0 0] 32)).alloc (Obj.cells #[.slice none 0 0, .slice none 0 0] 32)) := (((Below.refl _ _).alloc (Nat.le_refl _) _).alloc (by simp) _).alloc (by simp; omega) _
  have sz0 : w.heap.size + 3 = ((((w.alloc (Obj.cells #[v0, v1] 25)).alloc (Obj.cells #[.slice none 0 0, .slice none 0 0] 32)).alloc (Obj.cells #[.slice none 0 0, .slice none 0 0] 32))).heap.size := by simp only [World.size_alloc]
  refine (ih0 _ v0 (Nat.le_trans kI.get.1 bel0.size) (D.mono kD.get.1 fun k hk => bel0.block k hk)).mono ?_
  rintro e w1 ⟨r0, rfl, ht0, hb0⟩
  obtain ⟨b0, rfl, _, _⟩ := ht0.one
  rw [List.length_map] at ht0 ⊢
  rw [← sz0] at ht0 hb0
  have cb1 : w1.heap[w.heap.size]? = some (.cells #[v0, v1] 25 (0, 0)) := by
    rw [hb0.block _ (by omega), Below.heap_alloc _ _ _ (by simp; omega), Below.heap_alloc _ _ _ (by simp)]; exact alloc_at rfl
  have co1 : w1.heap[w.heap.size + 1]? = some (.cells #[.slice none 0 0, .slice none 0 0] 32 (0, 0)) := by
    rw [hb0.block _ (by omega), Below.heap_alloc _ _ _ (by simp)]; exact alloc_at (by simp)
  have ct1 : w1.heap[w.heap.size + 1 + 1]? = some (.cells #[.slice none 0 0, .slice none 0 0] 32 (0, 0)) := by
    rw [hb0.block _ (by omega)]; exact alloc_at (by simp)
  have z1 : w.heap.size + 3 ≤ w1.heap.size := Nat.le_trans (Nat.le_of_eq sz0) hb0.size
  have blw1 : Below w.heap.size w w1 := bel0.trans (hb0.mono (by omega))
  have keep1 : Kept (TJ w1 (w.heap.size + 3) w1.heap.size [.slice (some ⟨b0, 0, none⟩) t.Datas.length t.Datas.length] [.sl (t.Datas.map Data.enc)] ∧ True) := .mk ⟨ht0, trivial⟩
  obtain ⟨sa0, sa1⟩ := box2 cb1
  obtain ⟨ta0, ta1⟩ := box2 ct1
  have tf0 := free_at (i := 0) ct1
  have kc := Kept.mk (And.intro cb1 (And.intro co1 (And.intro ct1 blw1)))
  clear bel0 sz0 hb0 ht0 cb1 co1 ct1 blw1
  go_wp2_with fail
  have bel1 : Below w.heap.size w (w1.setCells (w.heap.size + 1 + 1) 0 [.slice (some ⟨b0, 0, none⟩) t.Datas.length t.Datas.length]) := below_setCells (by omega) kc.get.2.2.2
  clear sa0 sa1 ta0 ta1 tf0
  -- t.Decs
  refine (ih1 _ v1 (Nat.le_trans kI.get.1 bel1.size) (D.mono kD.get.2.1 fun k hk => bel1.block k hk)).mono ?_
  rintro e w2 ⟨r1, rfl, ht1, hb1⟩
  obtain ⟨b1, rfl, _, _⟩ := ht1.one
  rw [List.length_map] at ht1 ⊢
  have hw1 : Below w1.heap.size (w1.setCells (w.heap.size + 1 + 1) 0 [.slice (some ⟨b0, 0, none⟩) t.Datas.length t.Datas.length]) w2 := by
    rw [size_setCells] at hb1
    exact hb1
  have cb2 : w2.heap[w.heap.size]? = some (.cells #[v0, v1] 25 (0, 0)) := by
    rw [hw1.block _ (by omega), heap_setCells (by omega)]; exact kc.get.1
  have co2 : w2.heap[w.heap.size + 1]? = some (.cells #[.slice none 0 0, .slice none 0 0] 32 (0, 0)) := by
    rw [hw1.block _ (by omega), heap_setCells (by omega)]; exact kc.get.2.1
  have ct2 : w2.heap[w.heap.size + 1 + 1]? = some (.cells #[.slice (some ⟨b0, 0, none⟩) t.Datas.length t.Datas.length, .slice none 0 0] 32 (0, 0)) := by
    rw [hw1.block _ (by omega)]
    exact set_row (us := [.slice (some ⟨b0, 0, none⟩) t.Datas.length t.Datas.length]) (zs := [.slice none 0 0]) (vs := []) (r := [.slice none 0 0]) rfl kc.get.2.2.1
  have z2 : w.heap.size + 3 ≤ w2.heap.size := Nat.le_trans z1 (bel_size hw1)
  have o1 : Out w.heap.size (w.heap.size + 3) w1 w2 := (out_setCells (b := w.heap.size + 1 + 1) (by omega) (by omega)).trans (Out.of_below (by rw [size_setCells]; exact hw1))
  have blw2 : Below w.heap.size w w2 := kc.get.2.2.2.trans (o1.below (by omega))
  rw [size_setCells] at ht1
  have keep2 : Kept (TJ w2 (w.heap.size + 3) w2.heap.size [.slice (some ⟨b0, 0, none⟩) t.Datas.length t.Datas.length, .slice (some ⟨b1, 0, none⟩) t.Decs.length t.Decs.length] ([.sl (t.Datas.map Data.enc)] ++ [.sl (t.Decs.map Dec.enc)])) := .mk ((keep1.get.1.mono fun k h1 h2 => o1.heap k h2 (by omega)).app ht1)
  obtain ⟨sa0, sa1⟩ := box2 cb2
  obtain ⟨ta0, ta1⟩ := box2 ct2
  have tf0 := free_at (i := 1) ct2
  obtain ⟨oa0, oa1⟩ := box2 co2
  have of0 := free_at (i := 0) co2
  have of1 := free_at (i := 1) co2
  have kc := Kept.mk (And.intro cb2 (And.intro co2 (And.intro ct2 blw2)))
  clear hw1 hb1 ht1 cb2 co2 ct2 o1 blw2
  go_wp2_with fail
  refine bodyPost_ret (v := .agg #[.slice (some ⟨b0, 0, none⟩) t.Datas.length t.Datas.length, .slice (some ⟨b1, 0, none⟩) t.Decs.length t.Decs.length]) ?_ rfl ⟨[.slice (some ⟨b0, 0, none⟩) t.Datas.length t.Datas.length, .slice (some ⟨b1, 0, none⟩) t.Decs.length t.Decs.length], rfl, ?_, ?_⟩
  · simp [results, Go.Proofs.Try.results6, go_sem, cell_set, oa0, oa1]
  · rw [Prog.encp]
    have of : Out w.heap.size (w.heap.size + 3) w2 ((w2.setCells (w.heap.size + 1 + 1) 1 [.slice (some ⟨b1, 0, none⟩) t.Decs.length t.Decs.length]).setCells (w.heap.size + 1) 0 [.slice (some ⟨b0, 0, none⟩) t.Datas.length t.Datas.length, .slice (some ⟨b1, 0, none⟩) t.Decs.length t.Decs.length]) := (out_setCells (b := w.heap.size + 1 + 1) (by omega) (by omega)).trans (out_setCells (b := w.heap.size + 1) (by omega) (by omega))
    have ht := (keep2.get.mono (w' := ((w2.setCells (w.heap.size + 1 + 1) 1 [.slice (some ⟨b1, 0, none⟩) t.Decs.length t.Decs.length]).setCells (w.heap.size + 1) 0 [.slice (some ⟨b0, 0, none⟩) t.Datas.length t.Datas.length, .slice (some ⟨b1, 0, none⟩) t.Decs.length t.Decs.length])) fun k h1 h2 => of.heap k h2 (by omega)).lower (lo' := w.heap.size) (by omega)
    have hh := ht.hi (hi' := (((w2.setCells (w.heap.size + 1 + 1) 1 [.slice (some ⟨b1, 0, none⟩) t.Decs.length t.Decs.length]).setCells (w.heap.size + 1) 0 [.slice (some ⟨b0, 0, none⟩) t.Datas.length t.Datas.length, .slice (some ⟨b1, 0, none⟩) t.Decs.length t.Decs.length])).heap.size) (by rw [size_setCells, size_setCells]; exact Nat.le_refl _)
    exact hh
  · have of : Out w.heap.size (w.heap.size + 3) w2 ((w2.setCells (w.heap.size + 1 + 1) 1 [.slice (some ⟨b1, 0, none⟩) t.Decs.length t.Decs.length]).setCells (w.heap.size + 1) 0 [.slice (some ⟨b0, 0, none⟩) t.Datas.length t.Datas.length, .slice (some ⟨b1, 0, none⟩) t.Decs.length t.Decs.length]) := (out_setCells (b := w.heap.size + 1 + 1) (by omega) (by omega)).trans (out_setCells (b := w.heap.size + 1) (by omega) (by omega))
    exact kc.get.2.2.2.trans (of.below (by omega))
theorem toDataS_own {B : Nat} {l : List Data} {w : World} {v : Value} (hB : B ≤ w.heap.size) (hn : l.length ≤ 1048576) (h : D B w (.val v (.sl (l.map Data.enc))))
    (ih : ∀ (t : Data) (w1 : World) (v1 : Value), t ∈ l → B ≤ w1.heap.size → D B w1 (.val v1 t.enc) → Calls Go.Proofs.Try.prog 31 #[v1] w1 fun e w' => ∃ us : List Value, e = .returned (.agg us.toArray) ∧ TJ w' w1.heap.size w'.heap.size us t.enc.cells ∧ Below w1.heap.size w1 w') :
    Calls Go.Proofs.Try.prog 19 #[v] w fun e w' => ∃ v' : Value, e = .returned v' ∧ TJ w' w.heap.size w'.heap.size [v'] [.sl (l.map Data.enc)] ∧ Below w.heap.size w w' := by
  have hv : ∃ p cap, v = .slice p l.length cap := by
    rcases D_el h len_Data with ⟨e, p, rfl⟩ | ⟨b, base, cap, rfl, _⟩
    · simp at e; subst e; exact ⟨p, 0, rfl⟩
    · exact ⟨some ⟨b, base, none⟩, cap, by simp⟩
  obtain ⟨p, cap, rfl⟩ := hv
  have hmk := make_Data l.length (by omega)
  generalize hN : l.length = N at hmk hn h
  have kN := Kept.mk hN
  clear hN
  go_enter Go.Proofs.Try.func19, Go.Proofs.Try.ntmps19
  go_wp2_with fail
  go_loopw [4] (fun i wr => ∃ (k : Nat) (vs : List Value), k ≤ N ∧ i = .int .i64 k ∧ Kept (Fill w zero_Data 73 N (l.map Data.enc) k vs wr)) (fun i _ => N - (intOf i).toNat)
  case atStart => exact ⟨0, [], Nat.zero_le _, rfl, .mk Fill.start⟩
  case round =>
    obtain ⟨k, vs, hk, rfl, K⟩ := hrel
    by_cases hkN : k < N
    · obtain ⟨x, hx⟩ : ∃ x, l[k]? = some x := ⟨l[k]'(by rw [kN.get]; exact hkN), List.getElem?_eq_getElem _⟩
      have hxm : (l.map Data.enc)[k]? = some (x.enc) := by rw [List.getElem?_map, hx]; rfl
      rcases D_el h len_Data with ⟨e, _⟩ | ⟨b, base, cap', e, hlm, hel⟩
      · have : l = [] := by simpa using e
        subst this
        simp at hx
      obtain ⟨us, hus, hD, hcell⟩ := hel k _ hxm
      simp only [Value.slice.injEq] at e
      obtain ⟨rfl, hq, rfl⟩ := e
      clear hq
      have hval := Da_Data hD
      obtain ⟨v1, rfl, s0, d1⟩ := D_Data hD
      have c0 := hcell 0 _ rfl
      have c1 := hcell 1 _ rfl
      have bl : b < w.heap.size := World.block_lt_of_cell? _ _ c0
      simp only [Nat.add_zero] at c0
      rw [← K.get.bel.cell (p := ⟨b, base + k * 2, none⟩) bl] at c0
      rw [← K.get.bel.cell (p := ⟨b, base + k * 2 + 1, none⟩) bl] at c1
      have kv := Kept.mk (hval.mono fun q hq => K.get.bel.block q hq)
      clear hcell hus hD hel bl hval d1
      go_wp2_with fail
      refine (ih x wr _ (List.mem_of_getElem? hx) (Nat.le_trans hB K.get.bel.size) kv.get).mono ?_
      rintro e w2 ⟨us2, rfl, ht, hb⟩
      obtain ⟨b1, m1, rfl, _, _⟩ := TJ_Data ht
      have z0 := K.get.cell hkN hb 0 (u := .string ⟨#[]⟩) rfl
      have f0 := K.get.free hkN hb 0
      have z1 := K.get.cell hkN hb 1 (u := .slice none 0 0) rfl
      have f1 := K.get.free hkN hb 1
      simp only [zero_Data, List.length_cons, List.length_nil, Nat.zero_add, Nat.reduceAdd, Nat.add_zero] at z0 f0 z1 f1
      have kK := Kept.mk (And.intro ht hb)
      clear ht hb
      go_wp2_with fail
      have key := K.get.next hkN hxm kK.get.2 kK.get.1 rfl
      exact ⟨⟨k + 1, _, by omega, by go_num, .mk key⟩, by simp [intOf]; omega⟩
    · obtain rfl : k = N := by omega
      go_wp2_with fail
      go_ret
      refine ⟨_, rfl, K.get.done (by rw [List.length_map, kN.get]) (by have : lim = 140737488355328 := rfl; omega) (sz := 2) len_Data (fun c hc => ?_), K.get.bel⟩
      obtain ⟨y, hy, hc⟩ := List.mem_flatMap.1 hc
      obtain ⟨t, _, rfl⟩ := List.mem_map.1 hy
      exact C_Data.flat t c hc
theorem toDecS_own {B : Nat} {l : List Dec} {w : World} {v : Value} (hB : B ≤ w.heap.size) (hn : l.length ≤ 1048576) (h : D B w (.val v (.sl (l.map Dec.enc))))
    (ih : ∀ (t : Dec) (w1 : World) (v1 : Value), t ∈ l → B ≤ w1.heap.size → D B w1 (.val v1 t.enc) → Calls Go.Proofs.Try.prog 32 #[v1] w1 fun e w' => ∃ us : List Value, e = .returned (.agg us.toArray) ∧ TJ w' w1.heap.size w'.heap.size us t.enc.cells ∧ Below w1.heap.size w1 w') :
    Calls Go.Proofs.Try.prog 20 #[v] w fun e w' => ∃ v' : Value, e = .returned v' ∧ TJ w' w.heap.size w'.heap.size [v'] [.sl (l.map Dec.enc)] ∧ Below w.heap.size w w' := by
  have hv : ∃ p cap, v = .slice p l.length cap := by
    rcases D_el h len_Dec with ⟨e, p, rfl⟩ | ⟨b, base, cap, rfl, _⟩
    · simp at e; subst e; exact ⟨p, 0, rfl⟩
    · exact ⟨some ⟨b, base, none⟩, cap, by simp⟩
  obtain ⟨p, cap, rfl⟩ := hv
  have hmk := make_Dec l.length (by omega)
  generalize hN : l.length = N at hmk hn h
  have kN := Kept.mk hN
  clear hN
  go_enter Go.Proofs.Try.func20, Go.Proofs.Try.ntmps20
  go_wp2_with fail
  go_loopw [4] (fun i wr => ∃ (k : Nat) (vs : List Value), k ≤ N ∧ i = .int .i64 k ∧ Kept (Fill w zero_Dec 49 N (l.map Dec.enc) k vs wr)) (fun i _ => N - (intOf i).toNat)
  case atStart => exact ⟨0, [], Nat.zero_le _, rfl, .mk Fill.start⟩
  case round =>
    obtain ⟨k, vs, hk, rfl, K⟩ := hrel
    by_cases hkN : k < N
    · obtain ⟨x, hx⟩ : ∃ x, l[k]? = some x := ⟨l[k]'(by rw [kN.get]; exact hkN), List.getElem?_eq_getElem _⟩
      have hxm : (l.map Dec.enc)[k]? = some (x.enc) := by rw [List.getElem?_map, hx]; rfl
      rcases D_el h len_Dec with ⟨e, _⟩ | ⟨b, base, cap', e, hlm, hel⟩
      · have : l = [] := by simpa using e
        subst this
        simp at hx
      obtain ⟨us, hus, hD, hcell⟩ := hel k _ hxm
      simp only [Value.slice.injEq] at e
      obtain ⟨rfl, hq, rfl⟩ := e
      clear hq
      have hval := Da_Dec hD
      obtain ⟨v1, v5, v6, v7, v8, rfl, s0, s3, d1, d5, d6, d7, d8⟩ := D_Dec hD
      have c0 := hcell 0 _ rfl
      have c1 := hcell 1 _ rfl
      have c2 := hcell 2 _ rfl
      have c3 := hcell 3 _ rfl
      have c4 := hcell 4 _ rfl
      have c5 := hcell 5 _ rfl
      have c6 := hcell 6 _ rfl
      have c7 := hcell 7 _ rfl
      have c8 := hcell 8 _ rfl
      have bl : b < w.heap.size := World.block_lt_of_cell? _ _ c0
      simp only [Nat.add_zero] at c0
      rw [← K.get.bel.cell (p := ⟨b, base + k * 9, none⟩) bl] at c0
      rw [← K.get.bel.cell (p := ⟨b, base + k * 9 + 1, none⟩) bl] at c1
      rw [← K.get.bel.cell (p := ⟨b, base + k * 9 + 2, none⟩) bl] at c2
      rw [← K.get.bel.cell (p := ⟨b, base + k * 9 + 3, none⟩) bl] at c3
      rw [← K.get.bel.cell (p := ⟨b, base + k * 9 + 4, none⟩) bl] at c4
      rw [← K.get.bel.cell (p := ⟨b, base + k * 9 + 5, none⟩) bl] at c5
      rw [← K.get.bel.cell (p := ⟨b, base + k * 9 + 6, none⟩) bl] at c6
      rw [← K.get.bel.cell (p := ⟨b, base + k * 9 + 7, none⟩) bl] at c7
      rw [← K.get.bel.cell (p := ⟨b, base + k * 9 + 8, none⟩) bl] at c8
      have kv := Kept.mk (hval.mono fun q hq => K.get.bel.block q hq)
      clear hcell hus hD hel bl hval d1 d5 d6 d7 d8
      go_wp2_with fail
      refine (ih x wr _ (List.mem_of_getElem? hx) (Nat.le_trans hB K.get.bel.size) kv.get).mono ?_
      rintro e w2 ⟨us2, rfl, ht, hb⟩
      obtain ⟨b1, m1, b5, m5, b6, m6, b7, m7, b8, m8, rfl, _, _, _, _, _, _⟩ := TJ_Dec ht
      have z0 := K.get.cell hkN hb 0 (u := .string ⟨#[]⟩) rfl
      have f0 := K.get.free hkN hb 0
      have z1 := K.get.cell hkN hb 1 (u := .slice none 0 0) rfl
      have f1 := K.get.free hkN hb 1
      have z2 := K.get.cell hkN hb 2 (u := .int .i64 0) rfl
      have f2 := K.get.free hkN hb 2
      have z3 := K.get.cell hkN hb 3 (u := .string ⟨#[]⟩) rfl
      have f3 := K.get.free hkN hb 3
      have z4 := K.get.cell hkN hb 4 (u := .int .i64 0) rfl
      have f4 := K.get.free hkN hb 4
      have z5 := K.get.cell hkN hb 5 (u := .slice none 0 0) rfl
      have f5 := K.get.free hkN hb 5
      have z6 := K.get.cell hkN hb 6 (u := .slice none 0 0) rfl
      have f6 := K.get.free hkN hb 6
      have z7 := K.get.cell hkN hb 7 (u := .slice none 0 0) rfl
      have f7 := K.get.free hkN hb 7
      have z8 := K.get.cell hkN hb 8 (u := .slice none 0 0) rfl
      have f8 := K.get.free hkN hb 8
      simp only [zero_Dec, List.length_cons, List.length_nil, Nat.zero_add, Nat.reduceAdd, Nat.add_zero] at z0 f0 z1 f1 z2 f2 z3 f3 z4 f4 z5 f5 z6 f6 z7 f7 z8 f8
      have kK := Kept.mk (And.intro ht hb)
      clear ht hb
      go_wp2_with fail
      have key := K.get.next hkN hxm kK.get.2 kK.get.1 rfl
      exact ⟨⟨k + 1, _, by omega, by go_num, .mk key⟩, by simp [intOf]; omega⟩
    · obtain rfl : k = N := by omega
      go_wp2_with fail
      go_ret
      refine ⟨_, rfl, K.get.done (by rw [List.length_map, kN.get]) (by have : lim = 140737488355328 := rfl; omega) (sz := 9) len_Dec (fun c hc => ?_), K.get.bel⟩
      obtain ⟨y, hy, hc⟩ := List.mem_flatMap.1 hc
      obtain ⟨t, _, rfl⟩ := List.mem_map.1 hy
      exact C_Dec.flat t c hc
theorem toConS_own {B : Nat} {l : List Con} {w : World} {v : Value} (hB : B ≤ w.heap.size) (hn : l.length ≤ 1048576) (h : D B w (.val v (.sl (l.map Con.enc))))
    (ih : ∀ (t : Con) (w1 : World) (v1 : Value), t ∈ l → B ≤ w1.heap.size → D B w1 (.val v1 t.enc) → Calls Go.Proofs.Try.prog 63 #[v1] w1 fun e w' => ∃ us : List Value, e = .returned (.agg us.toArray) ∧ TJ w' w1.heap.size w'.heap.size us t.enc.cells ∧ Below w1.heap.size w1 w') :
    Calls Go.Proofs.Try.prog 47 #[v] w fun e w' => ∃ v' : Value, e = .returned v' ∧ TJ w' w.heap.size w'.heap.size [v'] [.sl (l.map Con.enc)] ∧ Below w.heap.size w w' := by
  have hv : ∃ p cap, v = .slice p l.length cap := by
    rcases D_el h len_Con with ⟨e, p, rfl⟩ | ⟨b, base, cap, rfl, _⟩
    · simp at e; subst e; exact ⟨p, 0, rfl⟩
    · exact ⟨some ⟨b, base, none⟩, cap, by simp⟩
  obtain ⟨p, cap, rfl⟩ := hv
  have hmk := make_Con l.length (by omega)
  generalize hN : l.length = N at hmk hn h
  have kN := Kept.mk hN
  clear hN
  go_enter Go.Proofs.Try.func47, Go.Proofs.Try.ntmps47
  go_wp2_with fail
  go_loopw [4] (fun i wr => ∃ (k : Nat) (vs : List Value), k ≤ N ∧ i = .int .i64 k ∧ Kept (Fill w zero_Con 99 N (l.map Con.enc) k vs wr)) (fun i _ => N - (intOf i).toNat)
  case atStart => exact ⟨0, [], Nat.zero_le _, rfl, .mk Fill.start⟩
  case round =>
    obtain ⟨k, vs, hk, rfl, K⟩ := hrel
    by_cases hkN : k < N
    · obtain ⟨x, hx⟩ : ∃ x, l[k]? = some x := ⟨l[k]'(by rw [kN.get]; exact hkN), List.getElem?_eq_getElem _⟩
      have hxm : (l.map Con.enc)[k]? = some (x.enc) := by rw [List.getElem?_map, hx]; rfl
      rcases D_el h len_Con with ⟨e, _⟩ | ⟨b, base, cap', e, hlm, hel⟩
      · have : l = [] := by simpa using e
        subst this
        simp at hx
      obtain ⟨us, hus, hD, hcell⟩ := hel k _ hxm
      simp only [Value.slice.injEq] at e
      obtain ⟨rfl, hq, rfl⟩ := e
      clear hq
      have hval := Da_Con hD
      obtain ⟨v1, rfl, s0, d1⟩ := D_Con hD
      have c0 := hcell 0 _ rfl
      have c1 := hcell 1 _ rfl
      have bl : b < w.heap.size := World.block_lt_of_cell? _ _ c0
      simp only [Nat.add_zero] at c0
      rw [← K.get.bel.cell (p := ⟨b, base + k * 2, none⟩) bl] at c0
      rw [← K.get.bel.cell (p := ⟨b, base + k * 2 + 1, none⟩) bl] at c1
      have kv := Kept.mk (hval.mono fun q hq => K.get.bel.block q hq)
      clear hcell hus hD hel bl hval d1
      go_wp2_with fail
      refine (ih x wr _ (List.mem_of_getElem? hx) (Nat.le_trans hB K.get.bel.size) kv.get).mono ?_
      rintro e w2 ⟨us2, rfl, ht, hb⟩
      obtain ⟨b1, m1, rfl, _, _⟩ := TJ_Con ht
      have z0 := K.get.cell hkN hb 0 (u := .string ⟨#[]⟩) rfl
      have f0 := K.get.free hkN hb 0
      have z1 := K.get.cell hkN hb 1 (u := .slice none 0 0) rfl
      have f1 := K.get.free hkN hb 1
      simp only [zero_Con, List.length_cons, List.length_nil, Nat.zero_add, Nat.reduceAdd, Nat.add_zero] at z0 f0 z1 f1
      have kK := Kept.mk (And.intro ht hb)
      clear ht hb
      go_wp2_with fail
      have key := K.get.next hkN hxm kK.get.2 kK.get.1 rfl
      exact ⟨⟨k + 1, _, by omega, by go_num, .mk key⟩, by simp [intOf]; omega⟩
    · obtain rfl : k = N := by omega
      go_wp2_with fail
      go_ret
      refine ⟨_, rfl, K.get.done (by rw [List.length_map, kN.get]) (by have : lim = 140737488355328 := rfl; omega) (sz := 2) len_Con (fun c hc => ?_), K.get.bel⟩
      obtain ⟨y, hy, hc⟩ := List.mem_flatMap.1 hc
      obtain ⟨t, _, rfl⟩ := List.mem_map.1 hy
      exact C_Con.flat t c hc
theorem toTyS_own {B : Nat} {l : List Ty} {w : World} {v : Value} (hB : B ≤ w.heap.size) (hn : l.length ≤ 1048576) (h : D B w (.val v (.sl (l.map Ty.enc))))
    (ih : ∀ (t : Ty) (w1 : World) (v1 : Value), t ∈ l → B ≤ w1.heap.size → D B w1 (.val v1 t.enc) → Calls Go.Proofs.Try.prog 81 #[v1] w1 fun e w' => ∃ us : List Value, e = .returned (.agg us.toArray) ∧ TJ w' w1.heap.size w'.heap.size us t.enc.cells ∧ Below w1.heap.size w1 w') :
    Calls Go.Proofs.Try.prog 74 #[v] w fun e w' => ∃ v' : Value, e = .returned v' ∧ TJ w' w.heap.size w'.heap.size [v'] [.sl (l.map Ty.enc)] ∧ Below w.heap.size w w' := by
  have hv : ∃ p cap, v = .slice p l.length cap := by
    rcases D_el h len_Ty with ⟨e, p, rfl⟩ | ⟨b, base, cap, rfl, _⟩
    · simp at e; subst e; exact ⟨p, 0, rfl⟩
    · exact ⟨some ⟨b, base, none⟩, cap, by simp⟩
  obtain ⟨p, cap, rfl⟩ := hv
  have hmk := make_Ty l.length (by omega)
  generalize hN : l.length = N at hmk hn h
  have kN := Kept.mk hN
  clear hN
  go_enter Go.Proofs.Try.func74, Go.Proofs.Try.ntmps74
  go_wp2_with fail
  go_loopw [4] (fun i wr => ∃ (k : Nat) (vs : List Value), k ≤ N ∧ i = .int .i64 k ∧ Kept (Fill w zero_Ty 116 N (l.map Ty.enc) k vs wr)) (fun i _ => N - (intOf i).toNat)
  case atStart => exact ⟨0, [], Nat.zero_le _, rfl, .mk Fill.start⟩
  case round =>
    obtain ⟨k, vs, hk, rfl, K⟩ := hrel
    by_cases hkN : k < N
    · obtain ⟨x, hx⟩ : ∃ x, l[k]? = some x := ⟨l[k]'(by rw [kN.get]; exact hkN), List.getElem?_eq_getElem _⟩
      have hxm : (l.map Ty.enc)[k]? = some (x.enc) := by rw [List.getElem?_map, hx]; rfl
      rcases D_el h len_Ty with ⟨e, _⟩ | ⟨b, base, cap', e, hlm, hel⟩
      · have : l = [] := by simpa using e
        subst this
        simp at hx
      obtain ⟨us, hus, hD, hcell⟩ := hel k _ hxm
      simp only [Value.slice.injEq] at e
      obtain ⟨rfl, hq, rfl⟩ := e
      clear hq
      have hval := Da_Ty hD
      obtain ⟨v3, rfl, s1, d3⟩ := D_Ty hD
      have c0 := hcell 0 _ rfl
      have c1 := hcell 1 _ rfl
      have c2 := hcell 2 _ rfl
      have c3 := hcell 3 _ rfl
      have bl : b < w.heap.size := World.block_lt_of_cell? _ _ c0
      simp only [Nat.add_zero] at c0
      rw [← K.get.bel.cell (p := ⟨b, base + k * 4, none⟩) bl] at c0
      rw [← K.get.bel.cell (p := ⟨b, base + k * 4 + 1, none⟩) bl] at c1
      rw [← K.get.bel.cell (p := ⟨b, base + k * 4 + 2, none⟩) bl] at c2
      rw [← K.get.bel.cell (p := ⟨b, base + k * 4 + 3, none⟩) bl] at c3
      have kv := Kept.mk (hval.mono fun q hq => K.get.bel.block q hq)
      clear hcell hus hD hel bl hval d3
      go_wp2_with fail
      refine (ih x wr _ (List.mem_of_getElem? hx) (Nat.le_trans hB K.get.bel.size) kv.get).mono ?_
      rintro e w2 ⟨us2, rfl, ht, hb⟩
      obtain ⟨b3, m3, rfl, _, _⟩ := TJ_Ty ht
      have z0 := K.get.cell hkN hb 0 (u := .int .i64 0) rfl
      have f0 := K.get.free hkN hb 0
      have z1 := K.get.cell hkN hb 1 (u := .string ⟨#[]⟩) rfl
      have f1 := K.get.free hkN hb 1
      have z2 := K.get.cell hkN hb 2 (u := .int .i64 0) rfl
      have f2 := K.get.free hkN hb 2
      have z3 := K.get.cell hkN hb 3 (u := .slice none 0 0) rfl
      have f3 := K.get.free hkN hb 3
      simp only [zero_Ty, List.length_cons, List.length_nil, Nat.zero_add, Nat.reduceAdd, Nat.add_zero] at z0 f0 z1 f1 z2 f2 z3 f3
      have kK := Kept.mk (And.intro ht hb)
      clear ht hb
      go_wp2_with fail
      have key := K.get.next hkN hxm kK.get.2 kK.get.1 rfl
      exact ⟨⟨k + 1, _, by omega, by go_num, .mk key⟩, by simp [intOf]; omega⟩
    · obtain rfl : k = N := by omega
      go_wp2_with fail
      go_ret
      refine ⟨_, rfl, K.get.done (by rw [List.length_map, kN.get]) (by have : lim = 140737488355328 := rfl; omega) (sz := 4) len_Ty (fun c hc => ?_), K.get.bel⟩
      obtain ⟨y, hy, hc⟩ := List.mem_flatMap.1 hc
      obtain ⟨t, _, rfl⟩ := List.mem_map.1 hy
      exact C_Ty.flat t c hc
theorem toStringS_own {B : Nat} {l : List ByteArray} {w : World} {v : Value} (hB : B ≤ w.heap.size) (hn : l.length ≤ 1048576) (h : D B w (.val v (.sl (l.map HV.str)))) :
    Calls Go.Proofs.Try.prog 48 #[v] w fun e w' => ∃ v' : Value, e = .returned v' ∧ TJ w' w.heap.size w'.heap.size [v'] [.sl (l.map HV.str)] ∧ Below w.heap.size w w' := by
  have hv : ∃ p cap, v = .slice p l.length cap := by
    rcases D_el h len_str with ⟨e, p, rfl⟩ | ⟨b, base, cap, rfl, _⟩
    · simp at e; subst e; exact ⟨p, 0, rfl⟩
    · exact ⟨some ⟨b, base, none⟩, cap, by simp⟩
  obtain ⟨p, cap, rfl⟩ := hv
  have hmk := make_String l.length (by omega)
  generalize hN : l.length = N at hmk hn h
  have kN := Kept.mk hN
  clear hN
  go_enter Go.Proofs.Try.func48, Go.Proofs.Try.ntmps48
  go_wp2_with fail
  go_loopw [4] (fun i wr => ∃ (k : Nat) (vs : List Value), k ≤ N ∧ i = .int .i64 k ∧ Kept (Fill w zero_String 9 N (l.map HV.str) k vs wr)) (fun i _ => N - (intOf i).toNat)
  case atStart => exact ⟨0, [], Nat.zero_le _, rfl, .mk Fill.start⟩
  case round =>
    obtain ⟨k, vs, hk, rfl, K⟩ := hrel
    by_cases hkN : k < N
    · obtain ⟨x, hx⟩ : ∃ x, l[k]? = some x := ⟨l[k]'(by rw [kN.get]; exact hkN), List.getElem?_eq_getElem _⟩
      have hxm : (l.map HV.str)[k]? = some (.str x) := by rw [List.getElem?_map, hx]; rfl
      rcases D_el h len_str with ⟨e, _⟩ | ⟨b, base, cap', e, hlm, hel⟩
      · have : l = [] := by simpa using e
        subst this
        simp at hx
      obtain ⟨us, hus, hD, hcell⟩ := hel k _ hxm
      simp only [Value.slice.injEq] at e
      obtain ⟨rfl, hq, rfl⟩ := e
      clear hq
      obtain ⟨rfl, hs⟩ : us = [.string x] ∧ x.size ≤ lim := by
        cases hD with
        | vcons a0 h0 =>
          cases h0
          cases a0 with
          | str hs => exact ⟨rfl, hs⟩
      have c0 := hcell 0 _ rfl
      have bl : b < w.heap.size := World.block_lt_of_cell? _ _ c0
      simp only [Nat.mul_one, Nat.add_zero] at c0
      rw [← K.get.bel.cell (p := ⟨b, base + k, none⟩) bl] at c0
      have z0 := K.get.cell hkN (Below.refl _ _) 0 (u := .string ⟨#[]⟩) rfl
      have f0 := K.get.free hkN (Below.refl _ _) 0
      simp only [List.length_singleton, Nat.mul_one, Nat.add_zero] at z0 f0
      clear hcell hus hD hel bl
      go_wp2_with fail
      have key := K.get.next hkN hxm (Below.refl _ _) (us := [.string x]) (TJ.str hs (.nil (Nat.le_refl _))) rfl
      simp only [List.length_singleton, Nat.mul_one] at key
      exact ⟨⟨k + 1, _, by omega, by go_num, .mk key⟩, by simp [intOf]; omega⟩
    · obtain rfl : k = N := by omega
      go_wp2_with fail
      go_ret
      refine ⟨_, rfl, K.get.done (by rw [List.length_map, kN.get]) (by have : lim = 140737488355328 := rfl; omega) (sz := 1) len_str (fun c hc => ?_), K.get.bel⟩
      obtain ⟨y, hy, hc⟩ := List.mem_flatMap.1 hc
      obtain ⟨t, _, rfl⟩ := List.mem_map.1 hy
      simp only [HV.cells, List.mem_singleton] at hc; subst hc; rfl
theorem toExpS_own {B : Nat} {l : List Exp} {w : World} {v : Value} (hB : B ≤ w.heap.size) (hn : l.length ≤ 1048576) (h : D B w (.val v (.sl (l.map Exp.enc))))
    (ih : ∀ (t : Exp) (w1 : World) (v1 : Value), t ∈ l → B ≤ w1.heap.size → D B w1 (.val v1 t.enc) → Calls Go.Proofs.Try.prog 49 #[v1] w1 fun e w' => ∃ us : List Value, e = .returned (.agg us.toArray) ∧ TJ w' w1.heap.size w'.heap.size us t.enc.cells ∧ Below w1.heap.size w1 w') :
    Calls Go.Proofs.Try.prog 64 #[v] w fun e w' => ∃ v' : Value, e = .returned v' ∧ TJ w' w.heap.size w'.heap.size [v'] [.sl (l.map Exp.enc)] ∧ Below w.heap.size w w' := by
  have hv : ∃ p cap, v = .slice p l.length cap := by
    rcases D_el h len_Exp with ⟨e, p, rfl⟩ | ⟨b, base, cap, rfl, _⟩
    · simp at e; subst e; exact ⟨p, 0, rfl⟩
    · exact ⟨some ⟨b, base, none⟩, cap, by simp⟩
  obtain ⟨p, cap, rfl⟩ := hv
  have hmk := make_Exp l.length (by omega)
  generalize hN : l.length = N at hmk hn h
  have kN := Kept.mk hN
  clear hN
  go_enter Go.Proofs.Try.func64, Go.Proofs.Try.ntmps64
  go_wp2_with fail
  go_loopw [4] (fun i wr => ∃ (k : Nat) (vs : List Value), k ≤ N ∧ i = .int .i64 k ∧ Kept (Fill w zero_Exp 47 N (l.map Exp.enc) k vs wr)) (fun i _ => N - (intOf i).toNat)
  case atStart => exact ⟨0, [], Nat.zero_le _, rfl, .mk Fill.start⟩
  case round =>
    obtain ⟨k, vs, hk, rfl, K⟩ := hrel
    by_cases hkN : k < N
    · obtain ⟨x, hx⟩ : ∃ x, l[k]? = some x := ⟨l[k]'(by rw [kN.get]; exact hkN), List.getElem?_eq_getElem _⟩
      have hxm : (l.map Exp.enc)[k]? = some (x.enc) := by rw [List.getElem?_map, hx]; rfl
      rcases D_el h len_Exp with ⟨e, _⟩ | ⟨b, base, cap', e, hlm, hel⟩
      · have : l = [] := by simpa using e
        subst this
        simp at hx
      obtain ⟨us, hus, hD, hcell⟩ := hel k _ hxm
      simp only [Value.slice.injEq] at e
      obtain ⟨rfl, hq, rfl⟩ := e
      clear hq
      have hval := Da_Exp hD
      obtain ⟨v3, v4, v5, rfl, s1, d3, d4, d5⟩ := D_Exp hD
      have c0 := hcell 0 _ rfl
      have c1 := hcell 1 _ rfl
      have c2 := hcell 2 _ rfl
      have c3 := hcell 3 _ rfl
      have c4 := hcell 4 _ rfl
      have c5 := hcell 5 _ rfl
      have bl : b < w.heap.size := World.block_lt_of_cell? _ _ c0
      simp only [Nat.add_zero] at c0
      rw [← K.get.bel.cell (p := ⟨b, base + k * 6, none⟩) bl] at c0
      rw [← K.get.bel.cell (p := ⟨b, base + k * 6 + 1, none⟩) bl] at c1
      rw [← K.get.bel.cell (p := ⟨b, base + k * 6 + 2, none⟩) bl] at c2
      rw [← K.get.bel.cell (p := ⟨b, base + k * 6 + 3, none⟩) bl] at c3
      rw [← K.get.bel.cell (p := ⟨b, base + k * 6 + 4, none⟩) bl] at c4
      rw [← K.get.bel.cell (p := ⟨b, base + k * 6 + 5, none⟩) bl] at c5
      have kv := Kept.mk (hval.mono fun q hq => K.get.bel.block q hq)
      clear hcell hus hD hel bl hval d3 d4 d5
      go_wp2_with fail
      refine (ih x wr _ (List.mem_of_getElem? hx) (Nat.le_trans hB K.get.bel.size) kv.get).mono ?_
      rintro e w2 ⟨us2, rfl, ht, hb⟩
      obtain ⟨b3, m3, b4, m4, b5, m5, rfl, _, _, _, _⟩ := TJ_Exp ht
      have z0 := K.get.cell hkN hb 0 (u := .int .i64 0) rfl
      have f0 := K.get.free hkN hb 0
      have z1 := K.get.cell hkN hb 1 (u := .string ⟨#[]⟩) rfl
      have f1 := K.get.free hkN hb 1
      have z2 := K.get.cell hkN hb 2 (u := .int .i64 0) rfl
      have f2 := K.get.free hkN hb 2
      have z3 := K.get.cell hkN hb 3 (u := .slice none 0 0) rfl
      have f3 := K.get.free hkN hb 3
      have z4 := K.get.cell hkN hb 4 (u := .slice none 0 0) rfl
      have f4 := K.get.free hkN hb 4
      have z5 := K.get.cell hkN hb 5 (u := .slice none 0 0) rfl
      have f5 := K.get.free hkN hb 5
      simp only [zero_Exp, List.length_cons, List.length_nil, Nat.zero_add, Nat.reduceAdd, Nat.add_zero] at z0 f0 z1 f1 z2 f2 z3 f3 z4 f4 z5 f5
      have kK := Kept.mk (And.intro ht hb)
      clear ht hb
      go_wp2_with fail
      have key := K.get.next hkN hxm kK.get.2 kK.get.1 rfl
      exact ⟨⟨k + 1, _, by omega, by go_num, .mk key⟩, by simp [intOf]; omega⟩
    · obtain rfl : k = N := by omega
      go_wp2_with fail
      go_ret
      refine ⟨_, rfl, K.get.done (by rw [List.length_map, kN.get]) (by have : lim = 140737488355328 := rfl; omega) (sz := 6) len_Exp (fun c hc => ?_), K.get.bel⟩
      obtain ⟨y, hy, hc⟩ := List.mem_flatMap.1 hc
      obtain ⟨t, _, rfl⟩ := List.mem_map.1 hy
      exact C_Exp.flat t c hc
theorem toAltS_own {B : Nat} {l : List Alt} {w : World} {v : Value} (hB : B ≤ w.heap.size) (hn : l.length ≤ 1048576) (h : D B w (.val v (.sl (l.map Alt.enc))))
    (ih : ∀ (t : Alt) (w1 : World) (v1 : Value), t ∈ l → B ≤ w1.heap.size → D B w1 (.val v1 t.enc) → Calls Go.Proofs.Try.prog 75 #[v1] w1 fun e w' => ∃ us : List Value, e = .returned (.agg us.toArray) ∧ TJ w' w1.heap.size w'.heap.size us t.enc.cells ∧ Below w1.heap.size w1 w') :
    Calls Go.Proofs.Try.prog 65 #[v] w fun e w' => ∃ v' : Value, e = .returned v' ∧ TJ w' w.heap.size w'.heap.size [v'] [.sl (l.map Alt.enc)] ∧ Below w.heap.size w w' := by
  have hv : ∃ p cap, v = .slice p l.length cap := by
    rcases D_el h len_Alt with ⟨e, p, rfl⟩ | ⟨b, base, cap, rfl, _⟩
    · simp at e; subst e; exact ⟨p, 0, rfl⟩
    · exact ⟨some ⟨b, base, none⟩, cap, by simp⟩
  obtain ⟨p, cap, rfl⟩ := hv
  have hmk := make_Alt l.length (by omega)
  generalize hN : l.length = N at hmk hn h
  have kN := Kept.mk hN
  clear hN
  go_enter Go.Proofs.Try.func65, Go.Proofs.Try.ntmps65
  go_wp2_with fail
  go_loopw [4] (fun i wr => ∃ (k : Nat) (vs : List Value), k ≤ N ∧ i = .int .i64 k ∧ Kept (Fill w zero_Alt 70 N (l.map Alt.enc) k vs wr)) (fun i _ => N - (intOf i).toNat)
  case atStart => exact ⟨0, [], Nat.zero_le _, rfl, .mk Fill.start⟩
  case round =>
    obtain ⟨k, vs, hk, rfl, K⟩ := hrel
    by_cases hkN : k < N
    · obtain ⟨x, hx⟩ : ∃ x, l[k]? = some x := ⟨l[k]'(by rw [kN.get]; exact hkN), List.getElem?_eq_getElem _⟩
      have hxm : (l.map Alt.enc)[k]? = some (x.enc) := by rw [List.getElem?_map, hx]; rfl
      rcases D_el h len_Alt with ⟨e, _⟩ | ⟨b, base, cap', e, hlm, hel⟩
      · have : l = [] := by simpa using e
        subst this
        simp at hx
      obtain ⟨us, hus, hD, hcell⟩ := hel k _ hxm
      simp only [Value.slice.injEq] at e
      obtain ⟨rfl, hq, rfl⟩ := e
      clear hq
      have hval := Da_Alt hD
      obtain ⟨v1, v5, v6, v7, rfl, s0, s3, d1, d5, d6, d7⟩ := D_Alt hD
      have c0 := hcell 0 _ rfl
      have c1 := hcell 1 _ rfl
      have c2 := hcell 2 _ rfl
      have c3 := hcell 3 _ rfl
      have c4 := hcell 4 _ rfl
      have c5 := hcell 5 _ rfl
      have c6 := hcell 6 _ rfl
      have c7 := hcell 7 _ rfl
      have bl : b < w.heap.size := World.block_lt_of_cell? _ _ c0
      simp only [Nat.add_zero] at c0
      rw [← K.get.bel.cell (p := ⟨b, base + k * 8, none⟩) bl] at c0
      rw [← K.get.bel.cell (p := ⟨b, base + k * 8 + 1, none⟩) bl] at c1
      rw [← K.get.bel.cell (p := ⟨b, base + k * 8 + 2, none⟩) bl] at c2
      rw [← K.get.bel.cell (p := ⟨b, base + k * 8 + 3, none⟩) bl] at c3
      rw [← K.get.bel.cell (p := ⟨b, base + k * 8 + 4, none⟩) bl] at c4
      rw [← K.get.bel.cell (p := ⟨b, base + k * 8 + 5, none⟩) bl] at c5
      rw [← K.get.bel.cell (p := ⟨b, base + k * 8 + 6, none⟩) bl] at c6
      rw [← K.get.bel.cell (p := ⟨b, base + k * 8 + 7, none⟩) bl] at c7
      have kv := Kept.mk (hval.mono fun q hq => K.get.bel.block q hq)
      clear hcell hus hD hel bl hval d1 d5 d6 d7
      go_wp2_with fail
      refine (ih x wr _ (List.mem_of_getElem? hx) (Nat.le_trans hB K.get.bel.size) kv.get).mono ?_
      rintro e w2 ⟨us2, rfl, ht, hb⟩
      obtain ⟨b1, m1, b5, m5, b6, m6, b7, m7, rfl, _, _, _, _, _⟩ := TJ_Alt ht
      have z0 := K.get.cell hkN hb 0 (u := .string ⟨#[]⟩) rfl
      have f0 := K.get.free hkN hb 0
      have z1 := K.get.cell hkN hb 1 (u := .slice none 0 0) rfl
      have f1 := K.get.free hkN hb 1
      have z2 := K.get.cell hkN hb 2 (u := .int .i64 0) rfl
      have f2 := K.get.free hkN hb 2
      have z3 := K.get.cell hkN hb 3 (u := .string ⟨#[]⟩) rfl
      have f3 := K.get.free hkN hb 3
      have z4 := K.get.cell hkN hb 4 (u := .int .i64 0) rfl
      have f4 := K.get.free hkN hb 4
      have z5 := K.get.cell hkN hb 5 (u := .slice none 0 0) rfl
      have f5 := K.get.free hkN hb 5
      have z6 := K.get.cell hkN hb 6 (u := .slice none 0 0) rfl
      have f6 := K.get.free hkN hb 6
      have z7 := K.get.cell hkN hb 7 (u := .slice none 0 0) rfl
      have f7 := K.get.free hkN hb 7
      simp only [zero_Alt, List.length_cons, List.length_nil, Nat.zero_add, Nat.reduceAdd, Nat.add_zero] at z0 f0 z1 f1 z2 f2 z3 f3 z4 f4 z5 f5 z6 f6 z7 f7
      have kK := Kept.mk (And.intro ht hb)
      clear ht hb
      go_wp2_with fail
      have key := K.get.next hkN hxm kK.get.2 kK.get.1 rfl
      exact ⟨⟨k + 1, _, by omega, by go_num, .mk key⟩, by simp [intOf]; omega⟩
    · obtain rfl : k = N := by omega
      go_wp2_with fail
      go_ret
      refine ⟨_, rfl, K.get.done (by rw [List.length_map, kN.get]) (by have : lim = 140737488355328 := rfl; omega) (sz := 8) len_Alt (fun c hc => ?_), K.get.bel⟩
      obtain ⟨y, hy, hc⟩ := List.mem_flatMap.1 hc
      obtain ⟨t, _, rfl⟩ := List.mem_map.1 hy
      exact C_Alt.flat t c hc
def mkN {α : Type} (c : α → Nat) (l : List α) : Nat := 4 * (l.length + sumC c l)
theorem sumC_take {α : Type} (c : α → Nat) : ∀ (l : List α) (j : Nat), sumC c (l.take j) ≤ sumC c l
  | [], j => by simp
  | x :: l, 0 => by simp [sumC]
  | x :: l, j + 1 => by have := sumC_take c l j; simp only [List.take_succ_cons, sumC]; omega
theorem sumC_at {α : Type} (c : α → Nat) : ∀ (l : List α) (j : Nat) (x : α), l[j]? = some x → sumC c (l.take (j + 1)) = sumC c (l.take j) + c x
  | [], j, x, h => by simp at h
  | y :: l, 0, x, h => by simp at h; subst h; simp [sumC]
  | y :: l, j + 1, x, h => by have := sumC_at c l j x (by simpa using h); simp only [List.take_succ_cons, sumC] at this ⊢; omega
theorem markText_calls {w : World} {n : Int} (h0 : 0 ≤ n) (h1 : n ≤ 549755813888) :
    Calls Go.Proofs.Try.prog 26 #[.int .i64 n] w fun e w' => ∃ s : ByteArray, e = .returned (.string s) ∧ s.size ≤ lim ∧ Below w.heap.size w w' := by
  obtain ⟨s, e1, e2⟩ := markText_some n h0 h1
  have hc : HCp P 26 [.int .i64 n] (.str s) := law_of (tab := tab) S_ok hext (s := s_laws_markText) (by simp [tab]) (x := n) (o := s) e1 rfl rfl rfl
  refine (hcp (B := 0) (vs := [.int .i64 n]) hc (.vcons .int .vnil) (TabW.noW noTab (Nat.zero_le _))).mono ?_
  rintro e w' ⟨v, rfl, hv, hb⟩
  cases hv
  exact ⟨s, rfl, e2, hb⟩
theorem markStringS_own {l : List ByteArray} {w : World} {v : Value} {lo hi : Nat} {k : Int} (ht : TJ w lo hi [v] [.sl (l.map HV.str)]) (hh : hi ≤ w.heap.size) (hk0 : 0 ≤ k) (hk1 : k + mkN ByteArray.size l ≤ 274877906944) :
    Calls Go.Proofs.Try.prog 11 #[v, .int .i64 k] w fun e w' => ∃ k' : Int, e = .returned (.int .i64 k') ∧ k ≤ k' ∧ k' ≤ k + mkN ByteArray.size l ∧ Out lo hi w w' := by
  have hlen : l.length ≤ 274877906944 := by unfold mkN at hk1; omega
  obtain ⟨b, mid, t0, rfl, hb, hm, hM⟩ := Mark.start ht hh 1
  simp only [List.length_map]
  generalize hN : l.length = N at hlen
  have kN := Kept.mk (And.intro hN (And.intro hb (And.intro hm (And.intro hh hk1))))
  have kM := Kept.mk hM
  clear hN hb hm hh hk1 ht hM
  go_enter Go.Proofs.Try.func11, Go.Proofs.Try.ntmps11
  go_wp2_with fail
  go_loopw [1, 5] (fun kk i wr => ∃ (j : Nat) (kv : Int), j ≤ N ∧ i = .int .i64 j ∧ kk = .int .i64 kv ∧ Kept (k ≤ kv ∧ kv ≤ k + 4 * (j + sumC ByteArray.size (l.take j)) ∧ Mark b mid 1 t0 (l.map HV.str) w j wr)) (fun _ i _ => N - (intOf i).toNat)
  case atStart => exact ⟨0, k, Nat.zero_le _, rfl, rfl, .mk ⟨by omega, by simp [sumC], kM.get⟩⟩
  case round =>
    obtain ⟨j, kv, hj, rfl, rfl, K⟩ := hrel
    have kv0 : 0 ≤ kv := by have := K.get.1; omega
    have kv1 : kv ≤ 274877906944 := by
      have h1 := sumC_take ByteArray.size l j
      have h2 := K.get.2.1
      obtain ⟨hN, hb, hm, hh, hk1⟩ := kN.get
      unfold mkN at hk1
      omega
    by_cases hjN : j < N
    · obtain ⟨x, hx⟩ : ∃ x, l[j]? = some x := ⟨l[j]'(by rw [kN.get.1]; exact hjN), List.getElem?_eq_getElem _⟩
      have hxm : (l.map HV.str)[j]? = some (.str x) := by rw [List.getElem?_map, hx]; rfl
      obtain ⟨us1, us2, h, h', T1, T2, m0⟩ := K.get.2.2.take hxm
      obtain ⟨rfl, hlast⟩ : us1 = [.string x] ∧ h ≤ h' := by
        cases T1 with | str _ h1 =>
        cases h1 with | nil h2 =>
        exact ⟨rfl, h2⟩
      have hat := sumC_at ByteArray.size l j x hx
      have hle := sumC_take ByteArray.size l (j + 1)
      have kA := Kept.mk (And.intro hat hle)
      have kT := Kept.mk (And.intro T2 hlast)
      have km0 := Kept.mk m0
      have kK := Kept.mk (And.intro K.get.1 K.get.2.1)
      have kMk := Kept.mk K.get.2.2
      clear K T1 T2 m0 hlast hxm hat hle
      go_wp2_with fail
      -- cell 0: text
      refine (markText_calls (by omega) (by omega)).mono ?_
      rintro e w1 ⟨s1, rfl, hs1, hb1⟩
      have n1 := km0.get.below hb1
      have z0 : _ = some (Value.string x) := n1.cell (u := Value.string x) 0 (by omega) rfl
      have f0 := n1.free 0
      simp only [Nat.mul_one, Nat.add_zero] at z0
      simp only [Nat.mul_one, Nat.add_zero] at f0
      have km1 := Kept.mk n1
      clear hb1 n1
      go_wp2_with fail
      have fin : k ≤ kv + 1 ∧ kv + 1 ≤ k + 4 * (((j + 1 : Nat) : Int) + sumC ByteArray.size (l.take (j + 1))) := by
        have h1 := kA.get
        have h2 := kK.get
        obtain ⟨hN, hb, hm, hh, hk1⟩ := kN.get
        omega
      exact ⟨⟨j + 1, _, by omega, by go_num, rfl, .mk ⟨fin.1, fin.2, kMk.get.next (us1 := [Value.string x]) (us2 := us2) (h2 := h) rfl kT.get.1 (by have s := (km1.get.set (.string s1)); simpa only [Nat.mul_one, Nat.add_zero, Nat.zero_add] using s) (kT.get.2)⟩⟩, by simp [intOf]; omega⟩
    · obtain rfl : j = N := by omega
      go_wp2_with fail
      go_ret
      obtain ⟨hN, hb, hm, hh, hk1⟩ := kN.get
      have h2 := K.get.2.1
      rw [List.take_of_length_le (by omega)] at h2
      exact ⟨kv, rfl, K.get.1, by unfold mkN; omega, K.get.2.2.out.mono hb hm⟩
theorem markTyS_own {l : List Ty} {w : World} {v : Value} {lo hi : Nat} {k : Int} (ht : TJ w lo hi [v] [.sl (l.map Ty.enc)]) (hh : hi ≤ w.heap.size) (hk0 : 0 ≤ k) (hk1 : k + mkN Ty.cost l ≤ 274877906944)
    (ih3 : ∀ (x : Ty) (w1 : World) (v1 : Value) (lo1 hi1 : Nat) (k1 : Int), x ∈ l → TJ w1 lo1 hi1 [v1] [.sl (x.L.map Ty.enc)] → hi1 ≤ w1.heap.size → 0 ≤ k1 → k1 + mkN Ty.cost x.L ≤ 274877906944 →
      Calls Go.Proofs.Try.prog 59 #[v1, .int .i64 k1] w1 fun e w' => ∃ k' : Int, e = .returned (.int .i64 k') ∧ k1 ≤ k' ∧ k' ≤ k1 + mkN Ty.cost x.L ∧ Out lo1 hi1 w1 w') :
    Calls Go.Proofs.Try.prog 59 #[v, .int .i64 k] w fun e w' => ∃ k' : Int, e = .returned (.int .i64 k') ∧ k ≤ k' ∧ k' ≤ k + mkN Ty.cost l ∧ Out lo hi w w' := by
  have hlen : l.length ≤ 274877906944 := by unfold mkN at hk1; omega
  obtain ⟨b, mid, t0, rfl, hb, hm, hM⟩ := Mark.start ht hh 4
  simp only [List.length_map]
  generalize hN : l.length = N at hlen
  have kN := Kept.mk (And.intro hN (And.intro hb (And.intro hm (And.intro hh hk1))))
  have kih3 := Kept.mk ih3
  have kM := Kept.mk hM
  clear hN hb hm hh hk1 ht hM ih3
  go_enter Go.Proofs.Try.func59, Go.Proofs.Try.ntmps59
  go_wp2_with fail
  go_loopw [1, 5] (fun kk i wr => ∃ (j : Nat) (kv : Int), j ≤ N ∧ i = .int .i64 j ∧ kk = .int .i64 kv ∧ Kept (k ≤ kv ∧ kv ≤ k + 4 * (j + sumC Ty.cost (l.take j)) ∧ Mark b mid 4 t0 (l.map Ty.enc) w j wr)) (fun _ i _ => N - (intOf i).toNat)
  case atStart => exact ⟨0, k, Nat.zero_le _, rfl, rfl, .mk ⟨by omega, by simp [sumC], kM.get⟩⟩
  case round =>
    obtain ⟨j, kv, hj, rfl, rfl, K⟩ := hrel
    have kv0 : 0 ≤ kv := by have := K.get.1; omega
    have kv1 : kv ≤ 274877906944 := by
      have h1 := sumC_take Ty.cost l j
      have h2 := K.get.2.1
      obtain ⟨hN, hb, hm, hh, hk1⟩ := kN.get
      unfold mkN at hk1
      omega
    by_cases hjN : j < N
    · obtain ⟨x, hx⟩ : ∃ x, l[j]? = some x := ⟨l[j]'(by rw [kN.get.1]; exact hjN), List.getElem?_eq_getElem _⟩
      have hxm : (l.map Ty.enc)[j]? = some (x.enc) := by rw [List.getElem?_map, hx]; rfl
      obtain ⟨us1, us2, h, h', T1, T2, m0⟩ := K.get.2.2.take hxm
      obtain ⟨b3, m3', rfl, p3, hlast⟩ := TJ_Ty T1
      have hxc := Ty.cost_eq x
      have hat := sumC_at Ty.cost l j x hx
      have hle := sumC_take Ty.cost l (j + 1)
      have kA := Kept.mk (And.intro hat (And.intro hle hxc))
      have kT := Kept.mk (And.intro T2 (And.intro p3 hlast))
      have km0 := Kept.mk m0
      have z0 : _ = some (Value.int .i64 x.K) := m0.cell (u := Value.int .i64 x.K) 0 (by omega) rfl
      have f0 := m0.free 0
      rw [show j * 4 + 0 = j * 4 from rfl] at z0
      rw [show j * 4 + 0 = j * 4 from rfl] at f0
      have kK := Kept.mk (And.intro K.get.1 K.get.2.1)
      have kMk := Kept.mk K.get.2.2
      clear K T1 T2 m0 p3 hlast hxm hat hle hxc
      go_wp2_with fail
      -- cell 1: text
      refine (markText_calls (by omega) (by omega)).mono ?_
      rintro e w1 ⟨s1, rfl, hs1, hb1⟩
      have n1 := (km0.get.set (.int .i64 (kv))).below hb1
      clear z0 f0
      have z1 : _ = some (Value.string x.S) := n1.cell (u := Value.string x.S) 1 (by omega) rfl
      have f1 := n1.free 1
      have z2 : _ = some (Value.int .i64 x.N) := n1.cell (u := Value.int .i64 x.N) 2 (by omega) rfl
      have f2 := n1.free 2
      have z3 : _ = some (Value.slice (some ⟨b3, 0, none⟩) x.L.length x.L.length) := n1.cell (u := Value.slice (some ⟨b3, 0, none⟩) x.L.length x.L.length) 3 (by omega) rfl
      have km1 := Kept.mk n1
      clear hb1 n1
      go_wp2_with fail
      -- cell 3: what hangs there
      have n2 := ((km1.get.set (.string s1)).set (.int .i64 (kv + 1 + 1)))
      have hfin : kv + 1 + 1 + 1 + ((mkN Ty.cost x.L : Nat) : Int) ≤ 274877906944 := by
        have h1 := kA.get
        have h2 := kK.get
        obtain ⟨hN, hb, hm, hh, hk1⟩ := kN.get
        unfold mkN at hk1 ⊢
        omega
      have hend : m3' ≤ mid := by
        have h1 := kT.get.2.1.le
        have h2 := kT.get.1.le
        have h3 := kT.get
        have g0 := kT.get.2.1.le
        omega
      refine (kih3.get x _ _ _ _ _ (List.mem_of_getElem? hx) (n2.tj kT.get.2.1 (Nat.le_refl _) hend) (Nat.le_trans hend n2.size) (by omega) hfin).mono ?_
      rintro e w2 ⟨k2, rfl, g1, g2, ho⟩
      have n2' := n2.call ho (Nat.le_refl _) kT.get.2.1.le hend
      have j0 : 0 ≤ k2 := by omega
      have j1 : k2 ≤ 274877906944 := by omega
      have kb2 := Kept.mk (And.intro g1 (by unfold mkN at g2; exact g2))
      have kq2 := Kept.mk (And.intro j0 j1)
      clear z1 f1 z2 f2 z3
      have km2 := Kept.mk n2'
      clear n2 n2' g1 g2 ho hfin hend
      go_wp2_with fail
      have fin : k ≤ k2 ∧ k2 ≤ k + 4 * (((j + 1 : Nat) : Int) + sumC Ty.cost (l.take (j + 1))) := by
        have h1 := kA.get
        have h2 := kK.get
        obtain ⟨hN, hb, hm, hh, hk1⟩ := kN.get
        have e2 := kb2.get
        omega
      exact ⟨⟨j + 1, _, by omega, by go_num, rfl, .mk ⟨fin.1, fin.2, kMk.get.next rfl kT.get.1 km2.get (by
        have h3 := kT.get
        exact h3.2.2)⟩⟩, by simp [intOf]; omega⟩
    · obtain rfl : j = N := by omega
      go_wp2_with fail
      go_ret
      obtain ⟨hN, hb, hm, hh, hk1⟩ := kN.get
      have h2 := K.get.2.1
      rw [List.take_of_length_le (by omega)] at h2
      exact ⟨kv, rfl, K.get.1, by unfold mkN; omega, K.get.2.2.out.mono hb hm⟩
theorem markConS_own {l : List Con} {w : World} {v : Value} {lo hi : Nat} {k : Int} (ht : TJ w lo hi [v] [.sl (l.map Con.enc)]) (hh : hi ≤ w.heap.size) (hk0 : 0 ≤ k) (hk1 : k + mkN Con.cost l ≤ 274877906944)
    (ih1 : ∀ (x : Con) (w1 : World) (v1 : Value) (lo1 hi1 : Nat) (k1 : Int), x ∈ l → TJ w1 lo1 hi1 [v1] [.sl (x.Args.map Ty.enc)] → hi1 ≤ w1.heap.size → 0 ≤ k1 → k1 + mkN Ty.cost x.Args ≤ 274877906944 →
      Calls Go.Proofs.Try.prog 59 #[v1, .int .i64 k1] w1 fun e w' => ∃ k' : Int, e = .returned (.int .i64 k') ∧ k1 ≤ k' ∧ k' ≤ k1 + mkN Ty.cost x.Args ∧ Out lo1 hi1 w1 w') :
    Calls Go.Proofs.Try.prog 40 #[v, .int .i64 k] w fun e w' => ∃ k' : Int, e = .returned (.int .i64 k') ∧ k ≤ k' ∧ k' ≤ k + mkN Con.cost l ∧ Out lo hi w w' := by
  have hlen : l.length ≤ 274877906944 := by unfold mkN at hk1; omega
  obtain ⟨b, mid, t0, rfl, hb, hm, hM⟩ := Mark.start ht hh 2
  simp only [List.length_map]
  generalize hN : l.length = N at hlen
  have kN := Kept.mk (And.intro hN (And.intro hb (And.intro hm (And.intro hh hk1))))
  have kih1 := Kept.mk ih1
  have kM := Kept.mk hM
  clear hN hb hm hh hk1 ht hM ih1
  go_enter Go.Proofs.Try.func40, Go.Proofs.Try.ntmps40
  go_wp2_with fail
  go_loopw [1, 5] (fun kk i wr => ∃ (j : Nat) (kv : Int), j ≤ N ∧ i = .int .i64 j ∧ kk = .int .i64 kv ∧ Kept (k ≤ kv ∧ kv ≤ k + 4 * (j + sumC Con.cost (l.take j)) ∧ Mark b mid 2 t0 (l.map Con.enc) w j wr)) (fun _ i _ => N - (intOf i).toNat)
  case atStart => exact ⟨0, k, Nat.zero_le _, rfl, rfl, .mk ⟨by omega, by simp [sumC], kM.get⟩⟩
  case round =>
    obtain ⟨j, kv, hj, rfl, rfl, K⟩ := hrel
    have kv0 : 0 ≤ kv := by have := K.get.1; omega
    have kv1 : kv ≤ 274877906944 := by
      have h1 := sumC_take Con.cost l j
      have h2 := K.get.2.1
      obtain ⟨hN, hb, hm, hh, hk1⟩ := kN.get
      unfold mkN at hk1
      omega
    by_cases hjN : j < N
    · obtain ⟨x, hx⟩ : ∃ x, l[j]? = some x := ⟨l[j]'(by rw [kN.get.1]; exact hjN), List.getElem?_eq_getElem _⟩
      have hxm : (l.map Con.enc)[j]? = some (x.enc) := by rw [List.getElem?_map, hx]; rfl
      obtain ⟨us1, us2, h, h', T1, T2, m0⟩ := K.get.2.2.take hxm
      obtain ⟨b1, m1', rfl, p1, hlast⟩ := TJ_Con T1
      have hxc := Con.cost_eq x
      have hat := sumC_at Con.cost l j x hx
      have hle := sumC_take Con.cost l (j + 1)
      have kA := Kept.mk (And.intro hat (And.intro hle hxc))
      have kT := Kept.mk (And.intro T2 (And.intro p1 hlast))
      have km0 := Kept.mk m0
      have kK := Kept.mk (And.intro K.get.1 K.get.2.1)
      have kMk := Kept.mk K.get.2.2
      clear K T1 T2 m0 p1 hlast hxm hat hle hxc
      go_wp2_with fail
      -- cell 0: text
      refine (markText_calls (by omega) (by omega)).mono ?_
      rintro e w1 ⟨s1, rfl, hs1, hb1⟩
      have n1 := km0.get.below hb1
      have z0 : _ = some (Value.string x.Name) := n1.cell (u := Value.string x.Name) 0 (by omega) rfl
      have f0 := n1.free 0
      have z1 : _ = some (Value.slice (some ⟨b1, 0, none⟩) x.Args.length x.Args.length) := n1.cell (u := Value.slice (some ⟨b1, 0, none⟩) x.Args.length x.Args.length) 1 (by omega) rfl
      rw [show j * 2 + 0 = j * 2 from rfl] at z0
      rw [show j * 2 + 0 = j * 2 from rfl] at f0
      have km1 := Kept.mk n1
      clear hb1 n1
      go_wp2_with fail
      -- cell 1: what hangs there
      have n2 := (km1.get.set (.string s1))
      have hfin : kv + 1 + ((mkN Ty.cost x.Args : Nat) : Int) ≤ 274877906944 := by
        have h1 := kA.get
        have h2 := kK.get
        obtain ⟨hN, hb, hm, hh, hk1⟩ := kN.get
        unfold mkN at hk1 ⊢
        omega
      have hend : m1' ≤ mid := by
        have h1 := kT.get.2.1.le
        have h2 := kT.get.1.le
        have h3 := kT.get
        have g0 := kT.get.2.1.le
        omega
      refine (kih1.get x _ _ _ _ _ (List.mem_of_getElem? hx) (n2.tj kT.get.2.1 (Nat.le_refl _) hend) (Nat.le_trans hend n2.size) (by omega) hfin).mono ?_
      rintro e w2 ⟨k2, rfl, g1, g2, ho⟩
      have n2' := n2.call ho (Nat.le_refl _) kT.get.2.1.le hend
      have j0 : 0 ≤ k2 := by omega
      have j1 : k2 ≤ 274877906944 := by omega
      have kb2 := Kept.mk (And.intro g1 (by unfold mkN at g2; exact g2))
      have kq2 := Kept.mk (And.intro j0 j1)
      clear z0 f0 z1
      have km2 := Kept.mk n2'
      clear n2 n2' g1 g2 ho hfin hend
      go_wp2_with fail
      have fin : k ≤ k2 ∧ k2 ≤ k + 4 * (((j + 1 : Nat) : Int) + sumC Con.cost (l.take (j + 1))) := by
        have h1 := kA.get
        have h2 := kK.get
        obtain ⟨hN, hb, hm, hh, hk1⟩ := kN.get
        have e2 := kb2.get
        omega
      exact ⟨⟨j + 1, _, by omega, by go_num, rfl, .mk ⟨fin.1, fin.2, kMk.get.next rfl kT.get.1 km2.get (by
        have h3 := kT.get
        exact h3.2.2)⟩⟩, by simp [intOf]; omega⟩
    · obtain rfl : j = N := by omega
      go_wp2_with fail
      go_ret
      obtain ⟨hN, hb, hm, hh, hk1⟩ := kN.get
      have h2 := K.get.2.1
      rw [List.take_of_length_le (by omega)] at h2
      exact ⟨kv, rfl, K.get.1, by unfold mkN; omega, K.get.2.2.out.mono hb hm⟩
theorem markDataS_own {l : List Data} {w : World} {v : Value} {lo hi : Nat} {k : Int} (ht : TJ w lo hi [v] [.sl (l.map Data.enc)]) (hh : hi ≤ w.heap.size) (hk0 : 0 ≤ k) (hk1 : k + mkN Data.cost l ≤ 274877906944)
    (ih1 : ∀ (x : Data) (w1 : World) (v1 : Value) (lo1 hi1 : Nat) (k1 : Int), x ∈ l → TJ w1 lo1 hi1 [v1] [.sl (x.Cons.map Con.enc)] → hi1 ≤ w1.heap.size → 0 ≤ k1 → k1 + mkN Con.cost x.Cons ≤ 274877906944 →
      Calls Go.Proofs.Try.prog 40 #[v1, .int .i64 k1] w1 fun e w' => ∃ k' : Int, e = .returned (.int .i64 k') ∧ k1 ≤ k' ∧ k' ≤ k1 + mkN Con.cost x.Cons ∧ Out lo1 hi1 w1 w') :
    Calls Go.Proofs.Try.prog 24 #[v, .int .i64 k] w fun e w' => ∃ k' : Int, e = .returned (.int .i64 k') ∧ k ≤ k' ∧ k' ≤ k + mkN Data.cost l ∧ Out lo hi w w' := by
  have hlen : l.length ≤ 274877906944 := by unfold mkN at hk1; omega
  obtain ⟨b, mid, t0, rfl, hb, hm, hM⟩ := Mark.start ht hh 2
  simp only [List.length_map]
  generalize hN : l.length = N at hlen
  have kN := Kept.mk (And.intro hN (And.intro hb (And.intro hm (And.intro hh hk1))))
  have kih1 := Kept.mk ih1
  have kM := Kept.mk hM
  clear hN hb hm hh hk1 ht hM ih1
  go_enter Go.Proofs.Try.func24, Go.Proofs.Try.ntmps24
  go_wp2_with fail
  go_loopw [1, 5] (fun kk i wr => ∃ (j : Nat) (kv : Int), j ≤ N ∧ i = .int .i64 j ∧ kk = .int .i64 kv ∧ Kept (k ≤ kv ∧ kv ≤ k + 4 * (j + sumC Data.cost (l.take j)) ∧ Mark b mid 2 t0 (l.map Data.enc) w j wr)) (fun _ i _ => N - (intOf i).toNat)
  case atStart => exact ⟨0, k, Nat.zero_le _, rfl, rfl, .mk ⟨by omega, by simp [sumC], kM.get⟩⟩
  case round =>
    obtain ⟨j, kv, hj, rfl, rfl, K⟩ := hrel
    have kv0 : 0 ≤ kv := by have := K.get.1; omega
    have kv1 : kv ≤ 274877906944 := by
      have h1 := sumC_take Data.cost l j
      have h2 := K.get.2.1
      obtain ⟨hN, hb, hm, hh, hk1⟩ := kN.get
      unfold mkN at hk1
      omega
    by_cases hjN : j < N
    · obtain ⟨x, hx⟩ : ∃ x, l[j]? = some x := ⟨l[j]'(by rw [kN.get.1]; exact hjN), List.getElem?_eq_getElem _⟩
      have hxm : (l.map Data.enc)[j]? = some (x.enc) := by rw [List.getElem?_map, hx]; rfl
      obtain ⟨us1, us2, h, h', T1, T2, m0⟩ := K.get.2.2.take hxm
      obtain ⟨b1, m1', rfl, p1, hlast⟩ := TJ_Data T1
      have hxc := Data.cost_eq x
      have hat := sumC_at Data.cost l j x hx
      have hle := sumC_take Data.cost l (j + 1)
      have kA := Kept.mk (And.intro hat (And.intro hle hxc))
      have kT := Kept.mk (And.intro T2 (And.intro p1 hlast))
      have km0 := Kept.mk m0
      have kK := Kept.mk (And.intro K.get.1 K.get.2.1)
      have kMk := Kept.mk K.get.2.2
      clear K T1 T2 m0 p1 hlast hxm hat hle hxc
      go_wp2_with fail
      -- cell 0: text
      refine (markText_calls (by omega) (by omega)).mono ?_
      rintro e w1 ⟨s1, rfl, hs1, hb1⟩
      have n1 := km0.get.below hb1
      have z0 : _ = some (Value.string x.Name) := n1.cell (u := Value.string x.Name) 0 (by omega) rfl
      have f0 := n1.free 0
      have z1 : _ = some (Value.slice (some ⟨b1, 0, none⟩) x.Cons.length x.Cons.length) := n1.cell (u := Value.slice (some ⟨b1, 0, none⟩) x.Cons.length x.Cons.length) 1 (by omega) rfl
      rw [show j * 2 + 0 = j * 2 from rfl] at z0
      rw [show j * 2 + 0 = j * 2 from rfl] at f0
      have km1 := Kept.mk n1
      clear hb1 n1
      go_wp2_with fail
      -- cell 1: what hangs there
      have n2 := (km1.get.set (.string s1))
      have hfin : kv + 1 + ((mkN Con.cost x.Cons : Nat) : Int) ≤ 274877906944 := by
        have h1 := kA.get
        have h2 := kK.get
        obtain ⟨hN, hb, hm, hh, hk1⟩ := kN.get
        unfold mkN at hk1 ⊢
        omega
      have hend : m1' ≤ mid := by
        have h1 := kT.get.2.1.le
        have h2 := kT.get.1.le
        have h3 := kT.get
        have g0 := kT.get.2.1.le
        omega
      refine (kih1.get x _ _ _ _ _ (List.mem_of_getElem? hx) (n2.tj kT.get.2.1 (Nat.le_refl _) hend) (Nat.le_trans hend n2.size) (by omega) hfin).mono ?_
      rintro e w2 ⟨k2, rfl, g1, g2, ho⟩
      have n2' := n2.call ho (Nat.le_refl _) kT.get.2.1.le hend
      have j0 : 0 ≤ k2 := by omega
      have j1 : k2 ≤ 274877906944 := by omega
      have kb2 := Kept.mk (And.intro g1 (by unfold mkN at g2; exact g2))
      have kq2 := Kept.mk (And.intro j0 j1)
      clear z0 f0 z1
      have km2 := Kept.mk n2'
      clear n2 n2' g1 g2 ho hfin hend
      go_wp2_with fail
      have fin : k ≤ k2 ∧ k2 ≤ k + 4 * (((j + 1 : Nat) : Int) + sumC Data.cost (l.take (j + 1))) := by
        have h1 := kA.get
        have h2 := kK.get
        obtain ⟨hN, hb, hm, hh, hk1⟩ := kN.get
        have e2 := kb2.get
        omega
      exact ⟨⟨j + 1, _, by omega, by go_num, rfl, .mk ⟨fin.1, fin.2, kMk.get.next rfl kT.get.1 km2.get (by
        have h3 := kT.get
        exact h3.2.2)⟩⟩, by simp [intOf]; omega⟩
    · obtain rfl : j = N := by omega
      go_wp2_with fail
      go_ret
      obtain ⟨hN, hb, hm, hh, hk1⟩ := kN.get
      have h2 := K.get.2.1
      rw [List.take_of_length_le (by omega)] at h2
      exact ⟨kv, rfl, K.get.1, by unfold mkN; omega, K.get.2.2.out.mono hb hm⟩
theorem markExpS_own {l : List Exp} {w : World} {v : Value} {lo hi : Nat} {k : Int} (ht : TJ w lo hi [v] [.sl (l.map Exp.enc)]) (hh : hi ≤ w.heap.size) (hk0 : 0 ≤ k) (hk1 : k + mkN Exp.cost l ≤ 274877906944)
    (ih3 : ∀ (x : Exp) (w1 : World) (v1 : Value) (lo1 hi1 : Nat) (k1 : Int), x ∈ l → TJ w1 lo1 hi1 [v1] [.sl (x.L.map Exp.enc)] → hi1 ≤ w1.heap.size → 0 ≤ k1 → k1 + mkN Exp.cost x.L ≤ 274877906944 →
      Calls Go.Proofs.Try.prog 41 #[v1, .int .i64 k1] w1 fun e w' => ∃ k' : Int, e = .returned (.int .i64 k') ∧ k1 ≤ k' ∧ k' ≤ k1 + mkN Exp.cost x.L ∧ Out lo1 hi1 w1 w')
    (ih4 : ∀ (x : Exp) (w1 : World) (v1 : Value) (lo1 hi1 : Nat) (k1 : Int), x ∈ l → TJ w1 lo1 hi1 [v1] [.sl (x.Decs.map Dec.enc)] → hi1 ≤ w1.heap.size → 0 ≤ k1 → k1 + mkN Dec.cost x.Decs ≤ 274877906944 →
      Calls Go.Proofs.Try.prog 25 #[v1, .int .i64 k1] w1 fun e w' => ∃ k' : Int, e = .returned (.int .i64 k') ∧ k1 ≤ k' ∧ k' ≤ k1 + mkN Dec.cost x.Decs ∧ Out lo1 hi1 w1 w')
    (ih5 : ∀ (x : Exp) (w1 : World) (v1 : Value) (lo1 hi1 : Nat) (k1 : Int), x ∈ l → TJ w1 lo1 hi1 [v1] [.sl (x.Alts.map Alt.enc)] → hi1 ≤ w1.heap.size → 0 ≤ k1 → k1 + mkN Alt.cost x.Alts ≤ 274877906944 →
      Calls Go.Proofs.Try.prog 42 #[v1, .int .i64 k1] w1 fun e w' => ∃ k' : Int, e = .returned (.int .i64 k') ∧ k1 ≤ k' ∧ k' ≤ k1 + mkN Alt.cost x.Alts ∧ Out lo1 hi1 w1 w') :
    Calls Go.Proofs.Try.prog 41 #[v, .int .i64 k] w fun e w' => ∃ k' : Int, e = .returned (.int .i64 k') ∧ k ≤ k' ∧ k' ≤ k + mkN Exp.cost l ∧ Out lo hi w w' := by
  have hlen : l.length ≤ 274877906944 := by unfold mkN at hk1; omega
  obtain ⟨b, mid, t0, rfl, hb, hm, hM⟩ := Mark.start ht hh 6
  simp only [List.length_map]
  generalize hN : l.length = N at hlen
  have kN := Kept.mk (And.intro hN (And.intro hb (And.intro hm (And.intro hh hk1))))
  have kih3 := Kept.mk ih3
  have kih4 := Kept.mk ih4
  have kih5 := Kept.mk ih5
  have kM := Kept.mk hM
  clear hN hb hm hh hk1 ht hM ih3 ih4 ih5
  go_enter Go.Proofs.Try.func41, Go.Proofs.Try.ntmps41
  go_wp2_with fail
  go_loopw [1, 5] (fun kk i wr => ∃ (j : Nat) (kv : Int), j ≤ N ∧ i = .int .i64 j ∧ kk = .int .i64 kv ∧ Kept (k ≤ kv ∧ kv ≤ k + 4 * (j + sumC Exp.cost (l.take j)) ∧ Mark b mid 6 t0 (l.map Exp.enc) w j wr)) (fun _ i _ => N - (intOf i).toNat)
  case atStart => exact ⟨0, k, Nat.zero_le _, rfl, rfl, .mk ⟨by omega, by simp [sumC], kM.get⟩⟩
  case round =>
    obtain ⟨j, kv, hj, rfl, rfl, K⟩ := hrel
    have kv0 : 0 ≤ kv := by have := K.get.1; omega
    have kv1 : kv ≤ 274877906944 := by
      have h1 := sumC_take Exp.cost l j
      have h2 := K.get.2.1
      obtain ⟨hN, hb, hm, hh, hk1⟩ := kN.get
      unfold mkN at hk1
      omega
    by_cases hjN : j < N
    · obtain ⟨x, hx⟩ : ∃ x, l[j]? = some x := ⟨l[j]'(by rw [kN.get.1]; exact hjN), List.getElem?_eq_getElem _⟩
      have hxm : (l.map Exp.enc)[j]? = some (x.enc) := by rw [List.getElem?_map, hx]; rfl
      obtain ⟨us1, us2, h, h', T1, T2, m0⟩ := K.get.2.2.take hxm
      obtain ⟨b3, m3', b4, m4', b5, m5', rfl, p3, p4, p5, hlast⟩ := TJ_Exp T1
      have hxc := Exp.cost_eq x
      have hat := sumC_at Exp.cost l j x hx
      have hle := sumC_take Exp.cost l (j + 1)
      have kA := Kept.mk (And.intro hat (And.intro hle hxc))
      have kT := Kept.mk (And.intro T2 (And.intro p3 (And.intro p4 (And.intro p5 hlast))))
      have km0 := Kept.mk m0
      have z0 : _ = some (Value.int .i64 x.K) := m0.cell (u := Value.int .i64 x.K) 0 (by omega) rfl
      have f0 := m0.free 0
      rw [show j * 6 + 0 = j * 6 from rfl] at z0
      rw [show j * 6 + 0 = j * 6 from rfl] at f0
      have kK := Kept.mk (And.intro K.get.1 K.get.2.1)
      have kMk := Kept.mk K.get.2.2
      clear K T1 T2 m0 p3 p4 p5 hlast hxm hat hle hxc
      go_wp2_with fail
      -- cell 1: text
      refine (markText_calls (by omega) (by omega)).mono ?_
      rintro e w1 ⟨s1, rfl, hs1, hb1⟩
      have n1 := (km0.get.set (.int .i64 (kv))).below hb1
      clear z0 f0
      have z1 : _ = some (Value.string x.S) := n1.cell (u := Value.string x.S) 1 (by omega) rfl
      have f1 := n1.free 1
      have z2 : _ = some (Value.int .i64 x.N) := n1.cell (u := Value.int .i64 x.N) 2 (by omega) rfl
      have f2 := n1.free 2
      have z3 : _ = some (Value.slice (some ⟨b3, 0, none⟩) x.L.length x.L.length) := n1.cell (u := Value.slice (some ⟨b3, 0, none⟩) x.L.length x.L.length) 3 (by omega) rfl
      have km1 := Kept.mk n1
      clear hb1 n1
      go_wp2_with fail
      -- cell 3: what hangs there
      have n2 := ((km1.get.set (.string s1)).set (.int .i64 (kv + 1 + 1)))
      have hfin : kv + 1 + 1 + 1 + ((mkN Exp.cost x.L : Nat) : Int) ≤ 274877906944 := by
        have h1 := kA.get
        have h2 := kK.get
        obtain ⟨hN, hb, hm, hh, hk1⟩ := kN.get
        unfold mkN at hk1 ⊢
        omega
      have hend : m3' ≤ mid := by
        have h1 := kT.get.2.1.le
        have h2 := kT.get.1.le
        have h3 := kT.get
        have g0 := kT.get.2.1.le; have g1 := kT.get.2.2.1.le; have g2 := kT.get.2.2.2.1.le
        omega
      refine (kih3.get x _ _ _ _ _ (List.mem_of_getElem? hx) (n2.tj kT.get.2.1 (Nat.le_refl _) hend) (Nat.le_trans hend n2.size) (by omega) hfin).mono ?_
      rintro e w2 ⟨k2, rfl, g1, g2, ho⟩
      have n2' := n2.call ho (Nat.le_refl _) kT.get.2.1.le hend
      have j0 : 0 ≤ k2 := by omega
      have j1 : k2 ≤ 274877906944 := by omega
      have kb2 := Kept.mk (And.intro g1 (by unfold mkN at g2; exact g2))
      have kq2 := Kept.mk (And.intro j0 j1)
      clear z1 f1 z2 f2 z3
      have z4 : _ = some (Value.slice (some ⟨b4, 0, none⟩) x.Decs.length x.Decs.length) := n2'.cell (u := Value.slice (some ⟨b4, 0, none⟩) x.Decs.length x.Decs.length) 4 (by omega) rfl
      have km2 := Kept.mk n2'
      clear n2 n2' g1 g2 ho hfin hend
      go_wp2_with fail
      -- cell 4: what hangs there
      have n3 := km2.get
      have hfin : k2 + ((mkN Dec.cost x.Decs : Nat) : Int) ≤ 274877906944 := by
        have h1 := kA.get
        have h2 := kK.get
        obtain ⟨hN, hb, hm, hh, hk1⟩ := kN.get
        unfold mkN at hk1 ⊢
        have e2 := kb2.get
        omega
      have hend : m4' ≤ mid := by
        have h1 := kT.get.2.2.1.le
        have h2 := kT.get.1.le
        have h3 := kT.get
        have g1 := kT.get.2.2.1.le; have g2 := kT.get.2.2.2.1.le
        omega
      refine (kih4.get x _ _ _ _ _ (List.mem_of_getElem? hx) (n3.tj kT.get.2.2.1 (Nat.le_refl _) hend) (Nat.le_trans hend n3.size) (by omega) hfin).mono ?_
      rintro e w3 ⟨k3, rfl, g1, g2, ho⟩
      have n3' := n3.call ho (Nat.le_refl _) kT.get.2.2.1.le hend
      have j0 : 0 ≤ k3 := by omega
      have j1 : k3 ≤ 274877906944 := by omega
      have kb3 := Kept.mk (And.intro g1 (by unfold mkN at g2; exact g2))
      have kq3 := Kept.mk (And.intro j0 j1)
      clear z4
      have z5 : _ = some (Value.slice (some ⟨b5, 0, none⟩) x.Alts.length x.Alts.length) := n3'.cell (u := Value.slice (some ⟨b5, 0, none⟩) x.Alts.length x.Alts.length) 5 (by omega) rfl
      have km3 := Kept.mk n3'
      clear n3 n3' g1 g2 ho hfin hend
      go_wp2_with fail
      -- cell 5: what hangs there
      have n4 := km3.get
      have hfin : k3 + ((mkN Alt.cost x.Alts : Nat) : Int) ≤ 274877906944 := by
        have h1 := kA.get
        have h2 := kK.get
        obtain ⟨hN, hb, hm, hh, hk1⟩ := kN.get
        unfold mkN at hk1 ⊢
        have e2 := kb2.get
        have e3 := kb3.get
        omega
      have hend : m5' ≤ mid := by
        have h1 := kT.get.2.2.2.1.le
        have h2 := kT.get.1.le
        have h3 := kT.get
        have g2 := kT.get.2.2.2.1.le
        omega
      refine (kih5.get x _ _ _ _ _ (List.mem_of_getElem? hx) (n4.tj kT.get.2.2.2.1 (Nat.le_refl _) hend) (Nat.le_trans hend n4.size) (by omega) hfin).mono ?_
      rintro e w4 ⟨k4, rfl, g1, g2, ho⟩
      have n4' := n4.call ho (Nat.le_refl _) kT.get.2.2.2.1.le hend
      have j0 : 0 ≤ k4 := by omega
      have j1 : k4 ≤ 274877906944 := by omega
      have kb4 := Kept.mk (And.intro g1 (by unfold mkN at g2; exact g2))
      have kq4 := Kept.mk (And.intro j0 j1)
      clear z5
      have km4 := Kept.mk n4'
      clear n4 n4' g1 g2 ho hfin hend
      go_wp2_with fail
      have fin : k ≤ k4 ∧ k4 ≤ k + 4 * (((j + 1 : Nat) : Int) + sumC Exp.cost (l.take (j + 1))) := by
        have h1 := kA.get
        have h2 := kK.get
        obtain ⟨hN, hb, hm, hh, hk1⟩ := kN.get
        have e2 := kb2.get
        have e3 := kb3.get
        have e4 := kb4.get
        omega
      exact ⟨⟨j + 1, _, by omega, by go_num, rfl, .mk ⟨fin.1, fin.2, kMk.get.next rfl kT.get.1 km4.get (by
        have h3 := kT.get
        exact h3.2.2.2.2)⟩⟩, by simp [intOf]; omega⟩
    · obtain rfl : j = N := by omega
      go_wp2_with fail
      go_ret
      obtain ⟨hN, hb, hm, hh, hk1⟩ := kN.get
      have h2 := K.get.2.1
      rw [List.take_of_length_le (by omega)] at h2
      exact ⟨kv, rfl, K.get.1, by unfold mkN; omega, K.get.2.2.out.mono hb hm⟩
theorem markAltS_own {l : List Alt} {w : World} {v : Value} {lo hi : Nat} {k : Int} (ht : TJ w lo hi [v] [.sl (l.map Alt.enc)]) (hh : hi ≤ w.heap.size) (hk0 : 0 ≤ k) (hk1 : k + mkN Alt.cost l ≤ 274877906944)
    (ih1 : ∀ (x : Alt) (w1 : World) (v1 : Value) (lo1 hi1 : Nat) (k1 : Int), x ∈ l → TJ w1 lo1 hi1 [v1] [.sl (x.Vars.map HV.str)] → hi1 ≤ w1.heap.size → 0 ≤ k1 → k1 + mkN ByteArray.size x.Vars ≤ 274877906944 →
      Calls Go.Proofs.Try.prog 11 #[v1, .int .i64 k1] w1 fun e w' => ∃ k' : Int, e = .returned (.int .i64 k') ∧ k1 ≤ k' ∧ k' ≤ k1 + mkN ByteArray.size x.Vars ∧ Out lo1 hi1 w1 w')
    (ih5 : ∀ (x : Alt) (w1 : World) (v1 : Value) (lo1 hi1 : Nat) (k1 : Int), x ∈ l → TJ w1 lo1 hi1 [v1] [.sl (x.E.L.map Exp.enc)] → hi1 ≤ w1.heap.size → 0 ≤ k1 → k1 + mkN Exp.cost x.E.L ≤ 274877906944 →
      Calls Go.Proofs.Try.prog 41 #[v1, .int .i64 k1] w1 fun e w' => ∃ k' : Int, e = .returned (.int .i64 k') ∧ k1 ≤ k' ∧ k' ≤ k1 + mkN Exp.cost x.E.L ∧ Out lo1 hi1 w1 w')
    (ih6 : ∀ (x : Alt) (w1 : World) (v1 : Value) (lo1 hi1 : Nat) (k1 : Int), x ∈ l → TJ w1 lo1 hi1 [v1] [.sl (x.E.Decs.map Dec.enc)] → hi1 ≤ w1.heap.size → 0 ≤ k1 → k1 + mkN Dec.cost x.E.Decs ≤ 274877906944 →
      Calls Go.Proofs.Try.prog 25 #[v1, .int .i64 k1] w1 fun e w' => ∃ k' : Int, e = .returned (.int .i64 k') ∧ k1 ≤ k' ∧ k' ≤ k1 + mkN Dec.cost x.E.Decs ∧ Out lo1 hi1 w1 w')
    (ih7 : ∀ (x : Alt) (w1 : World) (v1 : Value) (lo1 hi1 : Nat) (k1 : Int), x ∈ l → TJ w1 lo1 hi1 [v1] [.sl (x.E.Alts.map Alt.enc)] → hi1 ≤ w1.heap.size → 0 ≤ k1 → k1 + mkN Alt.cost x.E.Alts ≤ 274877906944 →
      Calls Go.Proofs.Try.prog 42 #[v1, .int .i64 k1] w1 fun e w' => ∃ k' : Int, e = .returned (.int .i64 k') ∧ k1 ≤ k' ∧ k' ≤ k1 + mkN Alt.cost x.E.Alts ∧ Out lo1 hi1 w1 w') :
    Calls Go.Proofs.Try.prog 42 #[v, .int .i64 k] w fun e w' => ∃ k' : Int, e = .returned (.int .i64 k') ∧ k ≤ k' ∧ k' ≤ k + mkN Alt.cost l ∧ Out lo hi w w' := by
  have hlen : l.length ≤ 274877906944 := by unfold mkN at hk1; omega
  obtain ⟨b, mid, t0, rfl, hb, hm, hM⟩ := Mark.start ht hh 8
  simp only [List.length_map]
  generalize hN : l.length = N at hlen
  have kN := Kept.mk (And.intro hN (And.intro hb (And.intro hm (And.intro hh hk1))))
  have kih1 := Kept.mk ih1
  have kih5 := Kept.mk ih5
  have kih6 := Kept.mk ih6
  have kih7 := Kept.mk ih7
  have kM := Kept.mk hM
  clear hN hb hm hh hk1 ht hM ih1 ih5 ih6 ih7
  go_enter Go.Proofs.Try.func42, Go.Proofs.Try.ntmps42
  go_wp2_with fail
  go_loopw [1, 5] (fun kk i wr => ∃ (j : Nat) (kv : Int), j ≤ N ∧ i = .int .i64 j ∧ kk = .int .i64 kv ∧ Kept (k ≤ kv ∧ kv ≤ k + 4 * (j + sumC Alt.cost (l.take j)) ∧ Mark b mid 8 t0 (l.map Alt.enc) w j wr)) (fun _ i _ => N - (intOf i).toNat)
  case atStart => exact ⟨0, k, Nat.zero_le _, rfl, rfl, .mk ⟨by omega, by simp [sumC], kM.get⟩⟩
  case round =>
    obtain ⟨j, kv, hj, rfl, rfl, K⟩ := hrel
    have kv0 : 0 ≤ kv := by have := K.get.1; omega
    have kv1 : kv ≤ 274877906944 := by
      have h1 := sumC_take Alt.cost l j
      have h2 := K.get.2.1
      obtain ⟨hN, hb, hm, hh, hk1⟩ := kN.get
      unfold mkN at hk1
      omega
    by_cases hjN : j < N
    · obtain ⟨x, hx⟩ : ∃ x, l[j]? = some x := ⟨l[j]'(by rw [kN.get.1]; exact hjN), List.getElem?_eq_getElem _⟩
      have hxm : (l.map Alt.enc)[j]? = some (x.enc) := by rw [List.getElem?_map, hx]; rfl
      obtain ⟨us1, us2, h, h', T1, T2, m0⟩ := K.get.2.2.take hxm
      obtain ⟨b1, m1', b5, m5', b6, m6', b7, m7', rfl, p1, p5, p6, p7, hlast⟩ := TJ_Alt T1
      have hxc := Alt.cost_eq x
      have hyc := Exp.cost_eq x.E
      have hat := sumC_at Alt.cost l j x hx
      have hle := sumC_take Alt.cost l (j + 1)
      have kA := Kept.mk (And.intro hat (And.intro hle (And.intro hxc hyc)))
      have kT := Kept.mk (And.intro T2 (And.intro p1 (And.intro p5 (And.intro p6 (And.intro p7 hlast)))))
      have km0 := Kept.mk m0
      have kK := Kept.mk (And.intro K.get.1 K.get.2.1)
      have kMk := Kept.mk K.get.2.2
      clear K T1 T2 m0 p1 p5 p6 p7 hlast hxm hat hle hxc hyc
      go_wp2_with fail
      -- cell 0: text
      refine (markText_calls (by omega) (by omega)).mono ?_
      rintro e w1 ⟨s1, rfl, hs1, hb1⟩
      have n1 := km0.get.below hb1
      have z0 : _ = some (Value.string x.Great) := n1.cell (u := Value.string x.Great) 0 (by omega) rfl
      have f0 := n1.free 0
      have z1 : _ = some (Value.slice (some ⟨b1, 0, none⟩) x.Vars.length x.Vars.length) := n1.cell (u := Value.slice (some ⟨b1, 0, none⟩) x.Vars.length x.Vars.length) 1 (by omega) rfl
      rw [show j * 8 + 0 = j * 8 from rfl] at z0
      rw [show j * 8 + 0 = j * 8 from rfl] at f0
      have km1 := Kept.mk n1
      clear hb1 n1
      go_wp2_with fail
      -- cell 1: what hangs there
      have n2 := (km1.get.set (.string s1))
      have hfin : kv + 1 + ((mkN ByteArray.size x.Vars : Nat) : Int) ≤ 274877906944 := by
        have h1 := kA.get
        have h2 := kK.get
        obtain ⟨hN, hb, hm, hh, hk1⟩ := kN.get
        unfold mkN at hk1 ⊢
        omega
      have hend : m1' ≤ mid := by
        have h1 := kT.get.2.1.le
        have h2 := kT.get.1.le
        have h3 := kT.get
        have g0 := kT.get.2.1.le; have g1 := kT.get.2.2.1.le; have g2 := kT.get.2.2.2.1.le; have g3 := kT.get.2.2.2.2.1.le
        omega
      refine (kih1.get x _ _ _ _ _ (List.mem_of_getElem? hx) (n2.tj kT.get.2.1 (Nat.le_refl _) hend) (Nat.le_trans hend n2.size) (by omega) hfin).mono ?_
      rintro e w2 ⟨k2, rfl, g1, g2, ho⟩
      have n2' := n2.call ho (Nat.le_refl _) kT.get.2.1.le hend
      have j0 : 0 ≤ k2 := by omega
      have j1 : k2 ≤ 274877906944 := by omega
      have kb2 := Kept.mk (And.intro g1 (by unfold mkN at g2; exact g2))
      have kq2 := Kept.mk (And.intro j0 j1)
      clear z0 f0 z1
      have z2 : _ = some (Value.int .i64 x.E.K) := n2'.cell (u := Value.int .i64 x.E.K) 2 (by omega) rfl
      have f2 := n2'.free 2
      have km2 := Kept.mk n2'
      clear n2 n2' g1 g2 ho hfin hend
      go_wp2_with fail
      -- cell 3: text
      refine (markText_calls (by omega) (by omega)).mono ?_
      rintro e w3 ⟨s3, rfl, hs3, hb3⟩
      have n3 := (km2.get.set (.int .i64 (k2))).below hb3
      clear z2 f2
      have z3 : _ = some (Value.string x.E.S) := n3.cell (u := Value.string x.E.S) 3 (by omega) rfl
      have f3 := n3.free 3
      have z4 : _ = some (Value.int .i64 x.E.N) := n3.cell (u := Value.int .i64 x.E.N) 4 (by omega) rfl
      have f4 := n3.free 4
      have z5 : _ = some (Value.slice (some ⟨b5, 0, none⟩) x.E.L.length x.E.L.length) := n3.cell (u := Value.slice (some ⟨b5, 0, none⟩) x.E.L.length x.E.L.length) 5 (by omega) rfl
      rw [show j * 8 + 3 = j * 8 + 2 + 1 from rfl] at z3
      rw [show j * 8 + 3 = j * 8 + 2 + 1 from rfl] at f3
      rw [show j * 8 + 4 = j * 8 + 2 + 2 from rfl] at z4
      rw [show j * 8 + 4 = j * 8 + 2 + 2 from rfl] at f4
      rw [show j * 8 + 5 = j * 8 + 2 + 3 from rfl] at z5
      have km3 := Kept.mk n3
      clear hb3 n3
      go_wp2_with fail
      -- cell 5: what hangs there
      have n4 := ((km3.get.set (.string s3)).set (.int .i64 (k2 + 1 + 1)))
      have hfin : k2 + 1 + 1 + 1 + ((mkN Exp.cost x.E.L : Nat) : Int) ≤ 274877906944 := by
        have h1 := kA.get
        have h2 := kK.get
        obtain ⟨hN, hb, hm, hh, hk1⟩ := kN.get
        unfold mkN at hk1 ⊢
        have e2 := kb2.get
        omega
      have hend : m5' ≤ mid := by
        have h1 := kT.get.2.2.1.le
        have h2 := kT.get.1.le
        have h3 := kT.get
        have g1 := kT.get.2.2.1.le; have g2 := kT.get.2.2.2.1.le; have g3 := kT.get.2.2.2.2.1.le
        omega
      refine (kih5.get x _ _ _ _ _ (List.mem_of_getElem? hx) (n4.tj kT.get.2.2.1 (Nat.le_refl _) hend) (Nat.le_trans hend n4.size) (by omega) hfin).mono ?_
      rintro e w4 ⟨k4, rfl, g1, g2, ho⟩
      have n4' := n4.call ho (Nat.le_refl _) kT.get.2.2.1.le hend
      have j0 : 0 ≤ k4 := by omega
      have j1 : k4 ≤ 274877906944 := by omega
      have kb4 := Kept.mk (And.intro g1 (by unfold mkN at g2; exact g2))
      have kq4 := Kept.mk (And.intro j0 j1)
      clear z3 f3 z4 f4 z5
      have z6 : _ = some (Value.slice (some ⟨b6, 0, none⟩) x.E.Decs.length x.E.Decs.length) := n4'.cell (u := Value.slice (some ⟨b6, 0, none⟩) x.E.Decs.length x.E.Decs.length) 6 (by omega) rfl
      rw [show j * 8 + 6 = j * 8 + 2 + 4 from rfl] at z6
      have km4 := Kept.mk n4'
      clear n4 n4' g1 g2 ho hfin hend
      go_wp2_with fail
      -- cell 6: what hangs there
      have n5 := km4.get
      have hfin : k4 + ((mkN Dec.cost x.E.Decs : Nat) : Int) ≤ 274877906944 := by
        have h1 := kA.get
        have h2 := kK.get
        obtain ⟨hN, hb, hm, hh, hk1⟩ := kN.get
        unfold mkN at hk1 ⊢
        have e2 := kb2.get
        have e4 := kb4.get
        omega
      have hend : m6' ≤ mid := by
        have h1 := kT.get.2.2.2.1.le
        have h2 := kT.get.1.le
        have h3 := kT.get
        have g2 := kT.get.2.2.2.1.le; have g3 := kT.get.2.2.2.2.1.le
        omega
      refine (kih6.get x _ _ _ _ _ (List.mem_of_getElem? hx) (n5.tj kT.get.2.2.2.1 (Nat.le_refl _) hend) (Nat.le_trans hend n5.size) (by omega) hfin).mono ?_
      rintro e w5 ⟨k5, rfl, g1, g2, ho⟩
      have n5' := n5.call ho (Nat.le_refl _) kT.get.2.2.2.1.le hend
      have j0 : 0 ≤ k5 := by omega
      have j1 : k5 ≤ 274877906944 := by omega
      have kb5 := Kept.mk (And.intro g1 (by unfold mkN at g2; exact g2))
      have kq5 := Kept.mk (And.intro j0 j1)
      clear z6
      have z7 : _ = some (Value.slice (some ⟨b7, 0, none⟩) x.E.Alts.length x.E.Alts.length) := n5'.cell (u := Value.slice (some ⟨b7, 0, none⟩) x.E.Alts.length x.E.Alts.length) 7 (by omega) rfl
      rw [show j * 8 + 7 = j * 8 + 2 + 5 from rfl] at z7
      have km5 := Kept.mk n5'
      clear n5 n5' g1 g2 ho hfin hend
      go_wp2_with fail
      -- cell 7: what hangs there
      have n6 := km5.get
      have hfin : k5 + ((mkN Alt.cost x.E.Alts : Nat) : Int) ≤ 274877906944 := by
        have h1 := kA.get
        have h2 := kK.get
        obtain ⟨hN, hb, hm, hh, hk1⟩ := kN.get
        unfold mkN at hk1 ⊢
        have e2 := kb2.get
        have e4 := kb4.get
        have e5 := kb5.get
        omega
      have hend : m7' ≤ mid := by
        have h1 := kT.get.2.2.2.2.1.le
        have h2 := kT.get.1.le
        have h3 := kT.get
        have g3 := kT.get.2.2.2.2.1.le
        omega
      refine (kih7.get x _ _ _ _ _ (List.mem_of_getElem? hx) (n6.tj kT.get.2.2.2.2.1 (Nat.le_refl _) hend) (Nat.le_trans hend n6.size) (by omega) hfin).mono ?_
      rintro e w6 ⟨k6, rfl, g1, g2, ho⟩
      have n6' := n6.call ho (Nat.le_refl _) kT.get.2.2.2.2.1.le hend
      have j0 : 0 ≤ k6 := by omega
      have j1 : k6 ≤ 274877906944 := by omega
      have kb6 := Kept.mk (And.intro g1 (by unfold mkN at g2; exact g2))
      have kq6 := Kept.mk (And.intro j0 j1)
      clear z7
      have km6 := Kept.mk n6'
      clear n6 n6' g1 g2 ho hfin hend
      go_wp2_with fail
      have fin : k ≤ k6 ∧ k6 ≤ k + 4 * (((j + 1 : Nat) : Int) + sumC Alt.cost (l.take (j + 1))) := by
        have h1 := kA.get
        have h2 := kK.get
        obtain ⟨hN, hb, hm, hh, hk1⟩ := kN.get
        have e2 := kb2.get
        have e4 := kb4.get
        have e5 := kb5.get
        have e6 := kb6.get
        omega
      exact ⟨⟨j + 1, _, by omega, by go_num, rfl, .mk ⟨fin.1, fin.2, kMk.get.next rfl kT.get.1 km6.get (by
        have h3 := kT.get
        exact h3.2.2.2.2.2)⟩⟩, by simp [intOf]; omega⟩
    · obtain rfl : j = N := by omega
      go_wp2_with fail
      go_ret
      obtain ⟨hN, hb, hm, hh, hk1⟩ := kN.get
      have h2 := K.get.2.1
      rw [List.take_of_length_le (by omega)] at h2
      exact ⟨kv, rfl, K.get.1, by unfold mkN; omega, K.get.2.2.out.mono hb hm⟩
theorem markDecS_own {l : List Dec} {w : World} {v : Value} {lo hi : Nat} {k : Int} (ht : TJ w lo hi [v] [.sl (l.map Dec.enc)]) (hh : hi ≤ w.heap.size) (hk0 : 0 ≤ k) (hk1 : k + mkN Dec.cost l ≤ 274877906944)
    (ih1 : ∀ (x : Dec) (w1 : World) (v1 : Value) (lo1 hi1 : Nat) (k1 : Int), x ∈ l → TJ w1 lo1 hi1 [v1] [.sl (x.Pars.map HV.str)] → hi1 ≤ w1.heap.size → 0 ≤ k1 → k1 + mkN ByteArray.size x.Pars ≤ 274877906944 →
      Calls Go.Proofs.Try.prog 11 #[v1, .int .i64 k1] w1 fun e w' => ∃ k' : Int, e = .returned (.int .i64 k') ∧ k1 ≤ k' ∧ k' ≤ k1 + mkN ByteArray.size x.Pars ∧ Out lo1 hi1 w1 w')
    (ih5 : ∀ (x : Dec) (w1 : World) (v1 : Value) (lo1 hi1 : Nat) (k1 : Int), x ∈ l → TJ w1 lo1 hi1 [v1] [.sl (x.E.L.map Exp.enc)] → hi1 ≤ w1.heap.size → 0 ≤ k1 → k1 + mkN Exp.cost x.E.L ≤ 274877906944 →
      Calls Go.Proofs.Try.prog 41 #[v1, .int .i64 k1] w1 fun e w' => ∃ k' : Int, e = .returned (.int .i64 k') ∧ k1 ≤ k' ∧ k' ≤ k1 + mkN Exp.cost x.E.L ∧ Out lo1 hi1 w1 w')
    (ih6 : ∀ (x : Dec) (w1 : World) (v1 : Value) (lo1 hi1 : Nat) (k1 : Int), x ∈ l → TJ w1 lo1 hi1 [v1] [.sl (x.E.Decs.map Dec.enc)] → hi1 ≤ w1.heap.size → 0 ≤ k1 → k1 + mkN Dec.cost x.E.Decs ≤ 274877906944 →
      Calls Go.Proofs.Try.prog 25 #[v1, .int .i64 k1] w1 fun e w' => ∃ k' : Int, e = .returned (.int .i64 k') ∧ k1 ≤ k' ∧ k' ≤ k1 + mkN Dec.cost x.E.Decs ∧ Out lo1 hi1 w1 w')
    (ih7 : ∀ (x : Dec) (w1 : World) (v1 : Value) (lo1 hi1 : Nat) (k1 : Int), x ∈ l → TJ w1 lo1 hi1 [v1] [.sl (x.E.Alts.map Alt.enc)] → hi1 ≤ w1.heap.size → 0 ≤ k1 → k1 + mkN Alt.cost x.E.Alts ≤ 274877906944 →
      Calls Go.Proofs.Try.prog 42 #[v1, .int .i64 k1] w1 fun e w' => ∃ k' : Int, e = .returned (.int .i64 k') ∧ k1 ≤ k' ∧ k' ≤ k1 + mkN Alt.cost x.E.Alts ∧ Out lo1 hi1 w1 w')
    (ih8 : ∀ (x : Dec) (w1 : World) (v1 : Value) (lo1 hi1 : Nat) (k1 : Int), x ∈ l → TJ w1 lo1 hi1 [v1] [.sl (x.Where.map Dec.enc)] → hi1 ≤ w1.heap.size → 0 ≤ k1 → k1 + mkN Dec.cost x.Where ≤ 274877906944 →
      Calls Go.Proofs.Try.prog 25 #[v1, .int .i64 k1] w1 fun e w' => ∃ k' : Int, e = .returned (.int .i64 k') ∧ k1 ≤ k' ∧ k' ≤ k1 + mkN Dec.cost x.Where ∧ Out lo1 hi1 w1 w') :
    Calls Go.Proofs.Try.prog 25 #[v, .int .i64 k] w fun e w' => ∃ k' : Int, e = .returned (.int .i64 k') ∧ k ≤ k' ∧ k' ≤ k + mkN Dec.cost l ∧ Out lo hi w w' := by
  have hlen : l.length ≤ 274877906944 := by unfold mkN at hk1; omega
  obtain ⟨b, mid, t0, rfl, hb, hm, hM⟩ := Mark.start ht hh 9
  simp only [List.length_map]
  generalize hN : l.length = N at hlen
  have kN := Kept.mk (And.intro hN (And.intro hb (And.intro hm (And.intro hh hk1))))
  have kih1 := Kept.mk ih1
  have kih5 := Kept.mk ih5
  have kih6 := Kept.mk ih6
  have kih7 := Kept.mk ih7
  have kih8 := Kept.mk ih8
  have kM := Kept.mk hM
  clear hN hb hm hh hk1 ht hM ih1 ih5 ih6 ih7 ih8
  go_enter Go.Proofs.Try.func25, Go.Proofs.Try.ntmps25
  go_wp2_with fail
  go_loopw [1, 5] (fun kk i wr => ∃ (j : Nat) (kv : Int), j ≤ N ∧ i = .int .i64 j ∧ kk = .int .i64 kv ∧ Kept (k ≤ kv ∧ kv ≤ k + 4 * (j + sumC Dec.cost (l.take j)) ∧ Mark b mid 9 t0 (l.map Dec.enc) w j wr)) (fun _ i _ => N - (intOf i).toNat)
  case atStart => exact ⟨0, k, Nat.zero_le _, rfl, rfl, .mk ⟨by omega, by simp [sumC], kM.get⟩⟩
  case round =>
    obtain ⟨j, kv, hj, rfl, rfl, K⟩ := hrel
    have kv0 : 0 ≤ kv := by have := K.get.1; omega
    have kv1 : kv ≤ 274877906944 := by
      have h1 := sumC_take Dec.cost l j
      have h2 := K.get.2.1
      obtain ⟨hN, hb, hm, hh, hk1⟩ := kN.get
      unfold mkN at hk1
      omega
    by_cases hjN : j < N
    · obtain ⟨x, hx⟩ : ∃ x, l[j]? = some x := ⟨l[j]'(by rw [kN.get.1]; exact hjN), List.getElem?_eq_getElem _⟩
      have hxm : (l.map Dec.enc)[j]? = some (x.enc) := by rw [List.getElem?_map, hx]; rfl
      obtain ⟨us1, us2, h, h', T1, T2, m0⟩ := K.get.2.2.take hxm
      obtain ⟨b1, m1', b5, m5', b6, m6', b7, m7', b8, m8', rfl, p1, p5, p6, p7, p8, hlast⟩ := TJ_Dec T1
      have hxc := Dec.cost_eq x
      have hyc := Exp.cost_eq x.E
      have hat := sumC_at Dec.cost l j x hx
      have hle := sumC_take Dec.cost l (j + 1)
      have kA := Kept.mk (And.intro hat (And.intro hle (And.intro hxc hyc)))
      have kT := Kept.mk (And.intro T2 (And.intro p1 (And.intro p5 (And.intro p6 (And.intro p7 (And.intro p8 hlast))))))
      have km0 := Kept.mk m0
      have kK := Kept.mk (And.intro K.get.1 K.get.2.1)
      have kMk := Kept.mk K.get.2.2
      clear K T1 T2 m0 p1 p5 p6 p7 p8 hlast hxm hat hle hxc hyc
      go_wp2_with fail
      -- cell 0: text
      refine (markText_calls (by omega) (by omega)).mono ?_
      rintro e w1 ⟨s1, rfl, hs1, hb1⟩
      have n1 := km0.get.below hb1
      have z0 : _ = some (Value.string x.Name) := n1.cell (u := Value.string x.Name) 0 (by omega) rfl
      have f0 := n1.free 0
      have z1 : _ = some (Value.slice (some ⟨b1, 0, none⟩) x.Pars.length x.Pars.length) := n1.cell (u := Value.slice (some ⟨b1, 0, none⟩) x.Pars.length x.Pars.length) 1 (by omega) rfl
      rw [show j * 9 + 0 = j * 9 from rfl] at z0
      rw [show j * 9 + 0 = j * 9 from rfl] at f0
      have km1 := Kept.mk n1
      clear hb1 n1
      go_wp2_with fail
      -- cell 1: what hangs there
      have n2 := (km1.get.set (.string s1))
      have hfin : kv + 1 + ((mkN ByteArray.size x.Pars : Nat) : Int) ≤ 274877906944 := by
        have h1 := kA.get
        have h2 := kK.get
        obtain ⟨hN, hb, hm, hh, hk1⟩ := kN.get
        unfold mkN at hk1 ⊢
        omega
      have hend : m1' ≤ mid := by
        have h1 := kT.get.2.1.le
        have h2 := kT.get.1.le
        have h3 := kT.get
        have g0 := kT.get.2.1.le; have g1 := kT.get.2.2.1.le; have g2 := kT.get.2.2.2.1.le; have g3 := kT.get.2.2.2.2.1.le; have g4 := kT.get.2.2.2.2.2.1.le
        omega
      refine (kih1.get x _ _ _ _ _ (List.mem_of_getElem? hx) (n2.tj kT.get.2.1 (Nat.le_refl _) hend) (Nat.le_trans hend n2.size) (by omega) hfin).mono ?_
      rintro e w2 ⟨k2, rfl, g1, g2, ho⟩
      have n2' := n2.call ho (Nat.le_refl _) kT.get.2.1.le hend
      have j0 : 0 ≤ k2 := by omega
      have j1 : k2 ≤ 274877906944 := by omega
      have kb2 := Kept.mk (And.intro g1 (by unfold mkN at g2; exact g2))
      have kq2 := Kept.mk (And.intro j0 j1)
      clear z0 f0 z1
      have z2 : _ = some (Value.int .i64 x.E.K) := n2'.cell (u := Value.int .i64 x.E.K) 2 (by omega) rfl
      have f2 := n2'.free 2
      have km2 := Kept.mk n2'
      clear n2 n2' g1 g2 ho hfin hend
      go_wp2_with fail
      -- cell 3: text
      refine (markText_calls (by omega) (by omega)).mono ?_
      rintro e w3 ⟨s3, rfl, hs3, hb3⟩
      have n3 := (km2.get.set (.int .i64 (k2))).below hb3
      clear z2 f2
      have z3 : _ = some (Value.string x.E.S) := n3.cell (u := Value.string x.E.S) 3 (by omega) rfl
      have f3 := n3.free 3
      have z4 : _ = some (Value.int .i64 x.E.N) := n3.cell (u := Value.int .i64 x.E.N) 4 (by omega) rfl
      have f4 := n3.free 4
      have z5 : _ = some (Value.slice (some ⟨b5, 0, none⟩) x.E.L.length x.E.L.length) := n3.cell (u := Value.slice (some ⟨b5, 0, none⟩) x.E.L.length x.E.L.length) 5 (by omega) rfl
      rw [show j * 9 + 3 = j * 9 + 2 + 1 from rfl] at z3
      rw [show j * 9 + 3 = j * 9 + 2 + 1 from rfl] at f3
      rw [show j * 9 + 4 = j * 9 + 2 + 2 from rfl] at z4
      rw [show j * 9 + 4 = j * 9 + 2 + 2 from rfl] at f4
      rw [show j * 9 + 5 = j * 9 + 2 + 3 from rfl] at z5
      have km3 := Kept.mk n3
      clear hb3 n3
      go_wp2_with fail
      -- cell 5: what hangs there
      have n4 := ((km3.get.set (.string s3)).set (.int .i64 (k2 + 1 + 1)))
      have hfin : k2 + 1 + 1 + 1 + ((mkN Exp.cost x.E.L : Nat) : Int) ≤ 274877906944 := by
        have h1 := kA.get
        have h2 := kK.get
        obtain ⟨hN, hb, hm, hh, hk1⟩ := kN.get
        unfold mkN at hk1 ⊢
        have e2 := kb2.get
        omega
      have hend : m5' ≤ mid := by
        have h1 := kT.get.2.2.1.le
        have h2 := kT.get.1.le
        have h3 := kT.get
        have g1 := kT.get.2.2.1.le; have g2 := kT.get.2.2.2.1.le; have g3 := kT.get.2.2.2.2.1.le; have g4 := kT.get.2.2.2.2.2.1.le
        omega
      refine (kih5.get x _ _ _ _ _ (List.mem_of_getElem? hx) (n4.tj kT.get.2.2.1 (Nat.le_refl _) hend) (Nat.le_trans hend n4.size) (by omega) hfin).mono ?_
      rintro e w4 ⟨k4, rfl, g1, g2, ho⟩
      have n4' := n4.call ho (Nat.le_refl _) kT.get.2.2.1.le hend
      have j0 : 0 ≤ k4 := by omega
      have j1 : k4 ≤ 274877906944 := by omega
      have kb4 := Kept.mk (And.intro g1 (by unfold mkN at g2; exact g2))
      have kq4 := Kept.mk (And.intro j0 j1)
      clear z3 f3 z4 f4 z5
      have z6 : _ = some (Value.slice (some ⟨b6, 0, none⟩) x.E.Decs.length x.E.Decs.length) := n4'.cell (u := Value.slice (some ⟨b6, 0, none⟩) x.E.Decs.length x.E.Decs.length) 6 (by omega) rfl
      rw [show j * 9 + 6 = j * 9 + 2 + 4 from rfl] at z6
      have km4 := Kept.mk n4'
      clear n4 n4' g1 g2 ho hfin hend
      go_wp2_with fail
      -- cell 6: what hangs there
      have n5 := km4.get
      have hfin : k4 + ((mkN Dec.cost x.E.Decs : Nat) : Int) ≤ 274877906944 := by
        have h1 := kA.get
        have h2 := kK.get
        obtain ⟨hN, hb, hm, hh, hk1⟩ := kN.get
        unfold mkN at hk1 ⊢
        have e2 := kb2.get
        have e4 := kb4.get
        omega
      have hend : m6' ≤ mid := by
        have h1 := kT.get.2.2.2.1.le
        have h2 := kT.get.1.le
        have h3 := kT.get
        have g2 := kT.get.2.2.2.1.le; have g3 := kT.get.2.2.2.2.1.le; have g4 := kT.get.2.2.2.2.2.1.le
        omega
      refine (kih6.get x _ _ _ _ _ (List.mem_of_getElem? hx) (n5.tj kT.get.2.2.2.1 (Nat.le_refl _) hend) (Nat.le_trans hend n5.size) (by omega) hfin).mono ?_
      rintro e w5 ⟨k5, rfl, g1, g2, ho⟩
      have n5' := n5.call ho (Nat.le_refl _) kT.get.2.2.2.1.le hend
      have j0 : 0 ≤ k5 := by omega
      have j1 : k5 ≤ 274877906944 := by omega
      have kb5 := Kept.mk (And.intro g1 (by unfold mkN at g2; exact g2))
      have kq5 := Kept.mk (And.intro j0 j1)
      clear z6
      have z7 : _ = some (Value.slice (some ⟨b7, 0, none⟩) x.E.Alts.length x.E.Alts.length) := n5'.cell (u := Value.slice (some ⟨b7, 0, none⟩) x.E.Alts.length x.E.Alts.length) 7 (by omega) rfl
      rw [show j * 9 + 7 = j * 9 + 2 + 5 from rfl] at z7
      have km5 := Kept.mk n5'
      clear n5 n5' g1 g2 ho hfin hend
      go_wp2_with fail
      -- cell 7: what hangs there
      have n6 := km5.get
      have hfin : k5 + ((mkN Alt.cost x.E.Alts : Nat) : Int) ≤ 274877906944 := by
        have h1 := kA.get
        have h2 := kK.get
        obtain ⟨hN, hb, hm, hh, hk1⟩ := kN.get
        unfold mkN at hk1 ⊢
        have e2 := kb2.get
        have e4 := kb4.get
        have e5 := kb5.get
        omega
      have hend : m7' ≤ mid := by
        have h1 := kT.get.2.2.2.2.1.le
        have h2 := kT.get.1.le
        have h3 := kT.get
        have g3 := kT.get.2.2.2.2.1.le; have g4 := kT.get.2.2.2.2.2.1.le
        omega
      refine (kih7.get x _ _ _ _ _ (List.mem_of_getElem? hx) (n6.tj kT.get.2.2.2.2.1 (Nat.le_refl _) hend) (Nat.le_trans hend n6.size) (by omega) hfin).mono ?_
      rintro e w6 ⟨k6, rfl, g1, g2, ho⟩
      have n6' := n6.call ho (Nat.le_refl _) kT.get.2.2.2.2.1.le hend
      have j0 : 0 ≤ k6 := by omega
      have j1 : k6 ≤ 274877906944 := by omega
      have kb6 := Kept.mk (And.intro g1 (by unfold mkN at g2; exact g2))
      have kq6 := Kept.mk (And.intro j0 j1)
      clear z7
      have z8 : _ = some (Value.slice (some ⟨b8, 0, none⟩) x.Where.length x.Where.length) := n6'.cell (u := Value.slice (some ⟨b8, 0, none⟩) x.Where.length x.Where.length) 8 (by omega) rfl
      have km6 := Kept.mk n6'
      clear n6 n6' g1 g2 ho hfin hend
      go_wp2_with fail
      -- cell 8: what hangs there
      have n7 := km6.get
      have hfin : k6 + ((mkN Dec.cost x.Where : Nat) : Int) ≤ 274877906944 := by
        have h1 := kA.get
        have h2 := kK.get
        obtain ⟨hN, hb, hm, hh, hk1⟩ := kN.get
        unfold mkN at hk1 ⊢
        have e2 := kb2.get
        have e4 := kb4.get
        have e5 := kb5.get
        have e6 := kb6.get
        omega
      have hend : m8' ≤ mid := by
        have h1 := kT.get.2.2.2.2.2.1.le
        have h2 := kT.get.1.le
        have h3 := kT.get
        have g4 := kT.get.2.2.2.2.2.1.le
        omega
      refine (kih8.get x _ _ _ _ _ (List.mem_of_getElem? hx) (n7.tj kT.get.2.2.2.2.2.1 (Nat.le_refl _) hend) (Nat.le_trans hend n7.size) (by omega) hfin).mono ?_
      rintro e w7 ⟨k7, rfl, g1, g2, ho⟩
      have n7' := n7.call ho (Nat.le_refl _) kT.get.2.2.2.2.2.1.le hend
      have j0 : 0 ≤ k7 := by omega
      have j1 : k7 ≤ 274877906944 := by omega
      have kb7 := Kept.mk (And.intro g1 (by unfold mkN at g2; exact g2))
      have kq7 := Kept.mk (And.intro j0 j1)
      clear z8
      have km7 := Kept.mk n7'
      clear n7 n7' g1 g2 ho hfin hend
      go_wp2_with fail
      have fin : k ≤ k7 ∧ k7 ≤ k + 4 * (((j + 1 : Nat) : Int) + sumC Dec.cost (l.take (j + 1))) := by
        have h1 := kA.get
        have h2 := kK.get
        obtain ⟨hN, hb, hm, hh, hk1⟩ := kN.get
        have e2 := kb2.get
        have e4 := kb4.get
        have e5 := kb5.get
        have e6 := kb6.get
        have e7 := kb7.get
        omega
      exact ⟨⟨j + 1, _, by omega, by go_num, rfl, .mk ⟨fin.1, fin.2, kMk.get.next rfl kT.get.1 km7.get (by
        have h3 := kT.get
        exact h3.2.2.2.2.2.2)⟩⟩, by simp [intOf]; omega⟩
    · obtain rfl : j = N := by omega
      go_wp2_with fail
      go_ret
      obtain ⟨hN, hb, hm, hh, hk1⟩ := kN.get
      have h2 := K.get.2.1
      rw [List.take_of_length_le (by omega)] at h2
      exact ⟨kv, rfl, K.get.1, by unfold mkN; omega, K.get.2.2.out.mono hb hm⟩
end Q
end W
end
section
/- Copies and marks, whole. -/
namespace W
set_option linter.unusedVariables false
set_option maxRecDepth 100000
set_option maxHeartbeats 4000000
namespace Q
open Go HL HL.X HL.Y Go.RowKit

def ToE (f : Nat) (h : HV) : Prop := ∀ (B : Nat) (w : World) (v : Value), B ≤ w.heap.size → D B w (.val v h) →
  Calls Go.Proofs.Try.prog f #[v] w fun e w' => ∃ us : List Value, e = .returned (.agg us.toArray) ∧ TJ w' w.heap.size w'.heap.size us h.cells ∧ Below w.heap.size w w'
def ToL (f : Nat) (L : List HV) : Prop := ∀ (B : Nat) (w : World) (v : Value), B ≤ w.heap.size → D B w (.val v (.sl L)) →
  Calls Go.Proofs.Try.prog f #[v] w fun e w' => ∃ v' : Value, e = .returned v' ∧ TJ w' w.heap.size w'.heap.size [v'] [.sl L] ∧ Below w.heap.size w w'

theorem o_strs {l : List ByteArray} (h : l.length ≤ 1048576) : ToL 48 (l.map HV.str) := fun B w v hB hD => toStringS_own hB h hD
theorem o_exps {l : List Exp} (h : l.length ≤ 1048576) (ih : ∀ x ∈ l, ToE 49 x.enc) : ToL 64 (l.map Exp.enc) := fun B w v hB hD => toExpS_own hB h hD fun t w1 v1 ht a b => ih t ht _ _ _ a b
theorem o_decs {l : List Dec} (h : l.length ≤ 1048576) (ih : ∀ x ∈ l, ToE 32 x.enc) : ToL 20 (l.map Dec.enc) := fun B w v hB hD => toDecS_own hB h hD fun t w1 v1 ht a b => ih t ht _ _ _ a b
theorem o_alts {l : List Alt} (h : l.length ≤ 1048576) (ih : ∀ x ∈ l, ToE 75 x.enc) : ToL 65 (l.map Alt.enc) := fun B w v hB hD => toAltS_own hB h hD fun t w1 v1 ht a b => ih t ht _ _ _ a b
theorem o_exp {t : Exp} (h1 : ToL 64 (t.L.map Exp.enc)) (h2 : ToL 20 (t.Decs.map Dec.enc)) (h3 : ToL 65 (t.Alts.map Alt.enc)) : ToE 49 t.enc := fun B w v hB hD =>
  toExp_own hB hD (fun w1 v1 a b => h1 _ _ _ a b) (fun w1 v1 a b => h2 _ _ _ a b) (fun w1 v1 a b => h3 _ _ _ a b)
theorem o_dec {t : Dec} (h0 : ToL 48 (t.Pars.map HV.str)) (h1 : ToE 49 t.E.enc) (h2 : ToL 20 (t.Where.map Dec.enc)) : ToE 32 t.enc := fun B w v hB hD =>
  toDec_own hB hD (fun w1 v1 a b => h0 _ _ _ a b) (fun w1 v1 a b => h1 _ _ _ a b) (fun w1 v1 a b => h2 _ _ _ a b)
theorem o_alt {t : Alt} (h0 : ToL 48 (t.Vars.map HV.str)) (h1 : ToE 49 t.E.enc) : ToE 75 t.enc := fun B w v hB hD =>
  toAlt_own hB hD (fun w1 v1 a b => h0 _ _ _ a b) (fun w1 v1 a b => h1 _ _ _ a b)

theorem own_dec : ∀ d : Dec, d.cost ≤ 1048576 → ToE 32 d.enc := by
  refine Dec.ind (M0 := fun a => a.cost ≤ 1048576 → ToE 75 a.enc) (M1 := fun d => d.cost ≤ 1048576 → ToE 32 d.enc) (M2 := fun e => e.cost ≤ 1048576 → ToE 49 e.enc) ?_ ?_ ?_
  · intro a h hc
    have := Alt.cost_eq a
    exact o_alt (o_strs (by omega)) (h (by omega))
  · intro d h hw hc
    have := Dec.cost_eq d
    exact o_dec (o_strs (by omega)) (h (by omega)) (o_decs (by omega) fun x hx => hw x hx (by have := sumC_mem (c := Dec.cost) hx; omega))
  · intro e hL hD hA hc
    have := Exp.cost_eq e
    exact o_exp (o_exps (by omega) fun x hx => hL x hx (by have := sumC_mem (c := Exp.cost) hx; omega)) (o_decs (by omega) fun x hx => hD x hx (by have := sumC_mem (c := Dec.cost) hx; omega)) (o_alts (by omega) fun x hx => hA x hx (by have := sumC_mem (c := Alt.cost) hx; omega))
theorem own_ty : ∀ t : Ty, t.cost ≤ 1048576 → ToE 81 t.enc := by
  refine Ty.ind fun t IH hc B w v hB hD => ?_
  have := Ty.cost_eq t
  exact toTy_own hB hD fun w1 v1 a b => toTyS_own a (by omega) b fun x w2 v2 hx c d => IH x hx (by have := sumC_mem (c := Ty.cost) hx; omega) _ _ _ c d
theorem own_con (t : Con) (hc : t.cost ≤ 1048576) : ToE 63 t.enc := fun B w v hB hD => by
  have := Con.cost_eq t
  exact toCon_own hB hD fun w1 v1 a b => toTyS_own a (by omega) b fun x w2 v2 hx c d => own_ty x (by have := sumC_mem (c := Ty.cost) hx; omega) _ _ _ c d
theorem own_data (t : Data) (hc : t.cost ≤ 1048576) : ToE 31 t.enc := fun B w v hB hD => by
  have := Data.cost_eq t
  exact toData_own hB hD fun w1 v1 a b => toConS_own a (by omega) b fun x w2 v2 hx c d => own_con x (by have := sumC_mem (c := Con.cost) hx; omega) _ _ _ c d
/-- A copy of a program lies in blocks of its own. -/
theorem own_prog (t : Prog) (hc : t.cost ≤ 1048576) : ToE 6 t.enc := fun B w v hB hD => by
  have := Prog.cost_eq t
  exact toProg_own hB hD (fun w1 v1 a b => toDataS_own a (by omega) b fun x w2 v2 hx c d => own_data x (by have := sumC_mem (c := Data.cost) hx; omega) _ _ _ c d)
    (fun w1 v1 a b => o_decs (by omega) (fun x hx => own_dec x (by have := sumC_mem (c := Dec.cost) hx; omega)) _ _ _ a b)

def MkL (f : Nat) (L : List HV) (n : Nat) : Prop := ∀ (w : World) (v : Value) (lo hi : Nat) (k : Int), TJ w lo hi [v] [.sl L] → hi ≤ w.heap.size → 0 ≤ k → k + n ≤ 274877906944 →
  Calls Go.Proofs.Try.prog f #[v, .int .i64 k] w fun e w' => ∃ k' : Int, e = .returned (.int .i64 k') ∧ k ≤ k' ∧ k' ≤ k + n ∧ Out lo hi w w'

theorem m_strs (l : List ByteArray) : MkL 11 (l.map HV.str) (mkN ByteArray.size l) := fun w v lo hi k a b c d => markStringS_own a b c d
def MkE (e : Exp) : Prop := MkL 41 (e.L.map Exp.enc) (mkN Exp.cost e.L) ∧ MkL 25 (e.Decs.map Dec.enc) (mkN Dec.cost e.Decs) ∧ MkL 42 (e.Alts.map Alt.enc) (mkN Alt.cost e.Alts)
theorem m_exps {l : List Exp} (ih : ∀ x ∈ l, MkE x) : MkL 41 (l.map Exp.enc) (mkN Exp.cost l) := fun w v lo hi k a b c d =>
  markExpS_own a b c d (fun x w1 v1 lo1 hi1 k1 hx p q r s => (ih x hx).1 _ _ _ _ _ p q r s) (fun x w1 v1 lo1 hi1 k1 hx p q r s => (ih x hx).2.1 _ _ _ _ _ p q r s) (fun x w1 v1 lo1 hi1 k1 hx p q r s => (ih x hx).2.2 _ _ _ _ _ p q r s)
theorem m_alts {l : List Alt} (ih : ∀ x ∈ l, MkE x.E) : MkL 42 (l.map Alt.enc) (mkN Alt.cost l) := fun w v lo hi k a b c d =>
  markAltS_own a b c d (fun x w1 v1 lo1 hi1 k1 hx p q r s => m_strs _ _ _ _ _ _ p q r s) (fun x w1 v1 lo1 hi1 k1 hx p q r s => (ih x hx).1 _ _ _ _ _ p q r s) (fun x w1 v1 lo1 hi1 k1 hx p q r s => (ih x hx).2.1 _ _ _ _ _ p q r s) (fun x w1 v1 lo1 hi1 k1 hx p q r s => (ih x hx).2.2 _ _ _ _ _ p q r s)
theorem m_decs {l : List Dec} (ih : ∀ x ∈ l, MkE x.E ∧ MkL 25 (x.Where.map Dec.enc) (mkN Dec.cost x.Where)) : MkL 25 (l.map Dec.enc) (mkN Dec.cost l) := fun w v lo hi k a b c d =>
  markDecS_own a b c d (fun x w1 v1 lo1 hi1 k1 hx p q r s => m_strs _ _ _ _ _ _ p q r s) (fun x w1 v1 lo1 hi1 k1 hx p q r s => (ih x hx).1.1 _ _ _ _ _ p q r s) (fun x w1 v1 lo1 hi1 k1 hx p q r s => (ih x hx).1.2.1 _ _ _ _ _ p q r s) (fun x w1 v1 lo1 hi1 k1 hx p q r s => (ih x hx).1.2.2 _ _ _ _ _ p q r s)
    (fun x w1 v1 lo1 hi1 k1 hx p q r s => (ih x hx).2 _ _ _ _ _ p q r s)
theorem mark_dec : ∀ d : Dec, MkE d.E ∧ MkL 25 (d.Where.map Dec.enc) (mkN Dec.cost d.Where) := by
  refine Dec.ind (M0 := fun a => MkE a.E) (M1 := fun d => MkE d.E ∧ MkL 25 (d.Where.map Dec.enc) (mkN Dec.cost d.Where)) (M2 := MkE) (fun a h => h) (fun d h hw => ⟨h, m_decs hw⟩) (fun e hL hD hA => ⟨m_exps hL, m_decs hD, m_alts hA⟩)
theorem m_tys : ∀ t : Ty, MkL 59 (t.L.map Ty.enc) (mkN Ty.cost t.L) := by
  refine Ty.ind fun t IH w v lo hi k a b c d => ?_
  exact markTyS_own a b c d (fun x w1 v1 lo1 hi1 k1 hx p q r s => IH x hx _ _ _ _ _ p q r s)
theorem m_tyl (l : List Ty) : MkL 59 (l.map Ty.enc) (mkN Ty.cost l) := m_tys (.mk 0 ⟨#[]⟩ 0 l)
theorem m_cons (l : List Con) : MkL 40 (l.map Con.enc) (mkN Con.cost l) := fun w v lo hi k a b c d => markConS_own a b c d (fun x w1 v1 lo1 hi1 k1 hx p q r s => m_tyl x.Args _ _ _ _ _ p q r s)
theorem m_datas (l : List Data) : MkL 24 (l.map Data.enc) (mkN Data.cost l) := fun w v lo hi k a b c d => markDataS_own a b c d (fun x w1 v1 lo1 hi1 k1 hx p q r s => m_cons x.Cons _ _ _ _ _ p q r s)

theorem mark_prog (t : Prog) {w : World} {us : List Value} {lo hi : Nat} {k : Int} (ht : TJ w lo hi us t.enc.cells) (hh : hi ≤ w.heap.size) (h0 : 0 ≤ k) (h1 : k + (mkN Data.cost t.Datas + mkN Dec.cost t.Decs : Nat) ≤ 274877906944) :
    Calls Go.Proofs.Try.prog 10 #[.agg us.toArray, .int .i64 k] w fun e w' => ∃ k' : Int, e = .returned (.int .i64 k') ∧ k ≤ k' ∧ k' ≤ k + (mkN Data.cost t.Datas + mkN Dec.cost t.Decs : Nat) ∧ Out lo hi w w' := by
  obtain ⟨b0, m0, b1, m1, rfl, p0, p1, hl⟩ := TJ_Prog ht
  have hm0 := p0.le
  have hm1 := p1.le
  have kT := Kept.mk (And.intro p0 (And.intro p1 (And.intro hl (And.intro hh (And.intro hm0 (And.intro hm1 h1))))))
  clear ht p0 p1 hl hh hm0 hm1 h1
  go_enter Go.Proofs.Try.func10, Go.Proofs.Try.ntmps10
  go_wp2_with fail
  obtain ⟨p0, p1, hl, hh, hm0, hm1, h1⟩ := kT.get
  refine (m_datas t.Datas _ _ _ _ _ (p0.mono fun q g1 g2 => Below.heap_alloc _ _ _ (by omega)) (by simp; omega) h0 (by omega)).mono ?_
  rintro e w2 ⟨k2, rfl, g1, g2, ho⟩
  have hs := ho.size
  have hbox : w2.heap[w.heap.size]? = some (.cells #[.slice (some ⟨b0, 0, none⟩) t.Datas.length t.Datas.length, .slice (some ⟨b1, 0, none⟩) t.Decs.length t.Decs.length] 32 (0, 0)) := by
    rw [ho.heap _ (by simp) (by omega)]; exact alloc_at rfl
  obtain ⟨c0, c1⟩ := box2 hbox
  have kK := Kept.mk (And.intro g1 (And.intro g2 (And.intro ho hs)))
  have k20 : 0 ≤ k2 := by omega
  clear p0 p1 hl hh hm0 hm1 h1 g1 g2 ho hs hbox
  go_wp2_with fail
  obtain ⟨p0, p1, hl, hh, hm0, hm1, h1⟩ := kT.get
  obtain ⟨g1, g2, ho, hs⟩ := kK.get
  simp only [World.size_alloc] at hs
  refine ((mark_dec (.mk ⟨#[]⟩ [] (.mk 0 ⟨#[]⟩ 0 [] [] []) t.Decs)).2 _ _ _ _ _ (p1.mono fun q g1 g2 => ?_) (by omega) k20 (by show k2 + (mkN Dec.cost t.Decs : Nat) ≤ _; omega)).mono ?_
  · rw [ho.heap _ (by simp; omega) (by omega), Below.heap_alloc _ _ _ (by omega)]
  rintro e w3 ⟨k3, rfl, g3, g4, ho3⟩
  have kL := Kept.mk (And.intro g3 (And.intro (show k3 ≤ k2 + (mkN Dec.cost t.Decs : Nat) from g4) ho3))
  clear p0 p1 hl hh hm0 hm1 h1 g1 g2 ho hs g3 g4 ho3
  go_wp2_with fail
  go_ret
  obtain ⟨p0, p1, hl, hh, hm0, hm1, h1⟩ := kT.get
  obtain ⟨g1, g2, ho, hs⟩ := kK.get
  obtain ⟨g3, g4, ho3⟩ := kL.get
  exact ⟨k3, rfl, by omega, by omega, ((Out.refl.alloc _).trans (ho.mono (Nat.le_refl _) (by omega))).trans (ho3.mono (by omega) (by omega))⟩
end Q
end W
end
section
/- Marks on what came back: texts. -/
namespace W
set_option linter.unusedVariables false
set_option maxRecDepth 100000
set_option maxHeartbeats 4000000
namespace Q
open Go HL HL.X HL.Y Go.RowKit

/-- The text of a mark. -/
noncomputable def mt (n : Int) : ByteArray := (M.laws_markText n).getD ⟨#[]⟩
theorem mt_eq {n : Int} (h0 : 0 ≤ n) (h1 : n ≤ 549755813888) : M.laws_markText n = some (mt n) ∧ (mt n).size ≤ lim := by
  obtain ⟨s, e1, e2⟩ := markText_some n h0 h1
  unfold mt
  rw [e1]
  exact ⟨rfl, e2⟩
theorem mt_calls {w : World} {n : Int} (h0 : 0 ≤ n) (h1 : n ≤ 549755813888) :
    Calls Go.Proofs.Try.prog 26 #[.int .i64 n] w fun e w' => e = .returned (.string (mt n)) ∧ Below w.heap.size w w' := by
  obtain ⟨e1, e2⟩ := mt_eq h0 h1
  have hc : HCp P 26 [.int .i64 n] (.str (mt n)) := law_of (tab := tab) S_ok hext (s := s_laws_markText) (by simp [tab]) (x := n) (o := mt n) e1 rfl rfl rfl
  refine (hcp (B := 0) (vs := [.int .i64 n]) hc (.vcons .int .vnil) (TabW.noW noTab (Nat.zero_le _))).mono ?_
  rintro e w' ⟨v, rfl, hv, hb⟩
  cases hv
  exact ⟨rfl, hb⟩
/-- Marks from k on. -/
noncomputable def mtFrom (k : Int) : Nat → List ByteArray
  | 0 => []
  | n + 1 => mt k :: mtFrom (k + 1) n
theorem mtFrom_len : ∀ (n : Nat) (k : Int), (mtFrom k n).length = n
  | 0, _ => rfl
  | n + 1, k => by rw [mtFrom, List.length_cons, mtFrom_len n]
theorem mtFrom_get : ∀ (n : Nat) (k : Int) (i : Nat), i < n → (mtFrom k n)[i]? = some (mt (k + i))
  | 0, _, _, h => by omega
  | n + 1, k, 0, _ => by simp [mtFrom]
  | n + 1, k, i + 1, h => by
    rw [mtFrom, List.getElem?_cons_succ, mtFrom_get n (k + 1) i (by omega)]
    congr 2
    omega
theorem mtFrom_small : ∀ (n : Nat) (k : Int), 0 ≤ k → k + n ≤ 549755813888 → ∀ s ∈ mtFrom k n, s.size ≤ lim
  | 0, _, _, _, s, hs => by simp [mtFrom] at hs
  | n + 1, k, h0, h1, s, hs => by
    rw [mtFrom] at hs
    rcases List.mem_cons.1 hs with rfl | hs
    · exact (mt_eq h0 (by omega)).2
    · exact mtFrom_small n (k + 1) (by omega) (by omega) s hs
theorem heldS {n : Nat} (hn : n ≤ 8000000) : M.laws_heldStringS (mtFrom 1 n, 1) = some (1 + (n : Int)) := by
  have hlim : lim = 140737488355328 := rfl
  have key : ∀ (k i : Nat), i + k = n → M.laws_heldStringS_L0 (mtFrom 1 n, (i : Int) + 1, (i : Int)) = some (.inr ((n : Int) + 1)) := by
    intro k
    induction k with
    | zero =>
      intro i h
      rw [M.e_laws_heldStringS_L0]; simp only [cnd_dec]
      rw [if_neg (by rw [mtFrom_len]; omega)]
      have : i = n := by omega
      rw [this]
    | succ k ih =>
      intro i h
      rw [M.e_laws_heldStringS_L0]; simp only [cnd_not, cnd_dec]
      have e : (1 : Int) + (i : Int) = (i : Int) + 1 := Int.add_comm _ _
      rw [if_pos (by rw [mtFrom_len]; omega), ix_of (mtFrom_get n 1 i (by omega)), Option.bind_some, (mt_eq (n := (i : Int) + 1) (by omega) (by omega)).1, Option.bind_some, e, if_pos rfl, wrap_ok (by omega), wrap_ok (by omega)]
      have := ih (i + 1) (by omega)
      simpa [Int.add_comm, Int.add_assoc, Int.add_left_comm] using this
  rw [M.e_laws_heldStringS]
  have := key n 0 (by omega)
  show (M.laws_heldStringS_L0 (mtFrom 1 n, 1, 0)).bind _ = _
  simp only [Int.natCast_zero, Int.zero_add] at this
  rw [this, Int.add_comm]
  rfl

theorem markStringS_raw {w : World} {p : Option Addr} {n cap : Nat} {k : Int} (hn : n ≤ 8000000) (h0 : 0 ≤ k) (h1 : k ≤ 1048577) (hp : n ≠ 0 → ∃ b c t, p = some ⟨b, 0, none⟩ ∧ w.heap[b]? = some (.cells c t (0, 0)) ∧ n ≤ c.size) :
    Calls Go.Proofs.Try.prog 11 #[.slice p n cap, .int .i64 k] w fun e w' => e = .returned (.int .i64 (k + n)) ∧ (n = 0 → w' = w) ∧ ∀ b, n ≠ 0 → p = some ⟨b, 0, none⟩ → Out b (b + 1) w w' ∧ ∃ c t, w'.heap[b]? = some (.cells c t (0, 0)) ∧ n ≤ c.size ∧ ∀ i : Nat, i < n → c[i]? = some (.string (mt (k + i))) := by
  have kp := Kept.mk hp
  clear hp
  go_enter Go.Proofs.Try.func11, Go.Proofs.Try.ntmps11
  go_wp2_with fail
  go_loopw [1, 5] (fun kk i wr => ∃ j : Nat, j ≤ n ∧ i = .int .i64 j ∧ kk = .int .i64 (k + j) ∧ Kept ((n = 0 → wr = w) ∧ ∀ b, n ≠ 0 → p = some ⟨b, 0, none⟩ → Out b (b + 1) w wr ∧ ∃ c t, wr.heap[b]? = some (.cells c t (0, 0)) ∧ n ≤ c.size ∧ ∀ i : Nat, i < j → c[i]? = some (.string (mt (k + i))))) (fun _ i _ => n - (intOf i).toNat)
  case atStart =>
    refine ⟨0, Nat.zero_le _, rfl, by simp, .mk ⟨fun _ => rfl, fun b hn0 hpb => ⟨.refl, ?_⟩⟩⟩
    obtain ⟨b', c, t, e, h2, h3⟩ := kp.get hn0
    rw [hpb] at e
    cases e
    exact ⟨c, t, h2, h3, fun i hi => by omega⟩
  case round =>
    obtain ⟨j, hj, rfl, rfl, K⟩ := hrel
    by_cases hjn : j < n
    · obtain ⟨b, _, _, rfl, _, _⟩ := kp.get (by omega)
      obtain ⟨ho, c, t, g1, g2, g3⟩ := K.get.2 b (by omega) rfl
      have kK := Kept.mk (And.intro ho (And.intro g1 (And.intro g2 g3)))
      clear K ho g1 g2 g3
      go_wp2_with fail
      refine (mt_calls (by omega) (by omega)).mono ?_
      rintro e w2 ⟨rfl, hb⟩
      obtain ⟨ho, g1, g2, g3⟩ := kK.get
      have hlt := (Array.getElem?_eq_some_iff.1 g1).1
      have g1' := (hb.block b hlt).trans g1
      obtain ⟨y, hy⟩ : ∃ y, c[j]? = some y := ⟨_, Array.getElem?_eq_getElem (by omega)⟩
      have z := cell_at (i := j) g1' hy
      have f := free_at (i := j) g1'
      have kL := Kept.mk (And.intro hb g1')
      clear hb g1' hlt ho g1 g2 g3 hy
      go_wp2_with fail
      obtain ⟨ho, g1, g2, g3⟩ := kK.get
      obtain ⟨hb, g1'⟩ := kL.get
      refine ⟨⟨j + 1, by omega, by go_num, by congr 1; omega, .mk ⟨fun h => by omega, fun b' _ e => ?_⟩⟩, by simp [intOf]; omega⟩
      cases e
      refine ⟨(ho.trans (Out.of_below hb)).setCell (Nat.le_refl _) (by show b < b + 1; omega) _, _, t, heap_set g1', by simpa using g2, fun i hi => ?_⟩
      by_cases e : i = j
      · subst e
        rw [Array.getElem?_setIfInBounds_self_of_lt (by omega)]
      · rw [Array.getElem?_setIfInBounds_ne (by omega)]
        exact g3 i (by omega)
    · obtain rfl : j = n := by omega
      go_wp2_with fail
      go_ret
      exact ⟨rfl, K.get.1, K.get.2⟩
end Q
end W
end
section
/- NamesOf: the law. -/
namespace W
set_option linter.unusedVariables false
set_option maxRecDepth 100000
set_option maxHeartbeats 4000000
namespace Q
open Go HL HL.X HL.Y Go.RowKit

theorem H_sz (t : Prog) (hs : t.small) : HCp P 4 [t.enc, .int .i64 1048576] (.int .i64 (rest t.cost 1048576)) :=
  law_of (tab := tab) S_ok hext (s := s_laws_szProg) (by simp [tab]) (x := (t, (1048576 : Int))) (o := rest t.cost 1048576) (szProg t hs 1048576 (by decide) (by decide)) rfl rfl rfl
theorem H_to (t : Prog) (hc : t.cost ≤ 1048576) : HCp P 6 [t.enc] t.enc :=
  law_of (tab := tab) S_ok hext (s := s_laws_toProg) (by simp [tab]) (x := t) (o := t) (toProg t hc) rfl rfl rfl
theorem H_sp {t : Prog} {r : List ByteArray} (h : M.spec_NamesOf t = some r) : HC P 5 [t.enc] [] fun r' st => r' = .own 0 (r.map HV.str).length ∧ st = [.arr 1 (r.map HV.str) true] :=
  own_of (tab := tab) S_ok hext (s := s_spec_NamesOf) (by simp [tab]) (x := t) (o := r) h rfl rfl (t := .str) (l := r) rfl rfl rfl
theorem H_eqS (l : List ByteArray) (hl : l.length ≤ lim) : HCp P 8 [.sl (l.map HV.str), .sl (l.map HV.str)] (.bool true) := by
  have h : M.laws_eqStringS (l, l) = some true := by rw [eqStringS l l hl]; simp
  exact law_of (tab := tab) S_ok hext (s := s_laws_eqStringS) (by simp [tab]) (x := (l, l)) (o := true) h rfl rfl rfl
theorem H_eqT (t : Prog) (hs : t.small) : HCp P 9 [t.enc, t.enc] (.bool true) := by
  have h : M.laws_eqProg (t, t) = some true := by rw [eqProg t hs t]; simp
  exact law_of (tab := tab) S_ok hext (s := s_laws_eqProg) (by simp [tab]) (x := (t, t)) (o := true) h rfl rfl rfl
theorem H_held (n : Nat) (hn : n ≤ 8000000) : HCp P 12 [.sl ((mtFrom 1 n).map HV.str), .int .i64 1] (.int .i64 (1 + (n : Int))) :=
  law_of (tab := tab) S_ok hext (s := s_laws_heldStringS) (by simp [tab]) (x := (mtFrom 1 n, (1 : Int))) (o := 1 + (n : Int)) (heldS hn) rfl rfl rfl
theorem H_im {t : Prog} {r : List ByteArray} (h : M.impl_NamesOf t = some r) : HC P 7 [t.enc] [] fun r' st => r' = .own 0 (r.map HV.str).length ∧ st = [.arr 1 (r.map HV.str) true] :=
  own_of (tab := tab) S_ok hext (s := s_impl_NamesOf) (by simp [tab]) (x := t) (o := r) h rfl rfl (t := .str) (l := r) rfl rfl rfl
theorem law_raw {w : World} {v : Value} {t : Prog} (hs : t.small) (hR : R (G0 w) (.val v t.enc)) : Calls Go.Proofs.Try.prog 3 #[v] w fun e w' => e = .returned (.bool true) ∧ Below w.heap.size w w' := by
  have hD : D w.heap.size w (.val v t.enc) := hR
  generalize hB : w.heap.size = B at hD
  obtain ⟨us0, rfl, hd⟩ := Dv_Prog hD
  obtain ⟨v0, v1, rfl, hl, hl2⟩ := D_Prog hd
  have tabW : ∀ {w' : World}, B ≤ w'.heap.size → TabW P (Gw B w') w' := fun h => TabW.noW noTab h
  have hagg : ∀ {w' : World}, (∀ k, k < B → w'.heap[k]? = w.heap[k]?) → D B w' (.vals [.agg #[v0, v1]] [t.enc]) := fun h => .vcons (hD.mono fun k hk => h k (by omega)) .vnil
  have kA := Kept.mk (And.intro hD (And.intro hl hB))
  clear hD hd hl hl2 hR hB
  go_enter Go.Proofs.Try.func3, Go.Proofs.Try.ntmps3
  go_wp2_with fail
  have below1 : Below B w (w.alloc (Obj.cells #[v0, v1] 25)) := (Below.refl _ _).alloc (Nat.le_of_eq kA.get.2.2.symm) _
  refine (hcp (B := B) (vs := [_, .int .i64 1048576]) (H_sz t hs) ((hagg below1.block).app_val .int) (tabW (by rw [World.size_alloc, kA.get.2.2]; omega))).mono ?_
  rintro e w2 ⟨v2, rfl, hv2, hb2⟩
  cases hv2
  simp only [World.size_alloc] at hb2
  have hbox : w2.heap[w.heap.size]? = some (.cells #[v0, v1] 25 (0, 0)) := by
    rw [hb2.block _ (by omega)]; exact alloc_at rfl
  have below2 : Below B w w2 := below1.trans (hb2.mono (by have := kA.get.2.2; omega))
  by_cases hc : t.cost ≤ 1048576
  · obtain ⟨r, er1, er2, hvl⟩ := names_same t hc
    rw [rest_pos (by omega)]
    obtain ⟨c0, c1⟩ := box2 hbox
    have kB := Kept.mk (And.intro below2 hbox)
    clear below1 below2 hbox hb2
    go_wp2_with fail
    -- toTy, for the reference
    have b2 := kB.get.1
    refine (hcp (B := B) (H_to t hc) (hagg b2.block) (tabW (by have := b2.size; have := kA.get.2.2; omega))).mono ?_
    rintro e w3 ⟨v3, rfl, hv3, hb3⟩
    have kC := Kept.mk (And.intro hv3 hb3)
    clear hv3 hb3 b2
    go_wp2_with fail
    obtain ⟨hv3, hb3⟩ := kC.get
    have b2 := kB.get.1
    have z2 := b2.size
    have z3 := hb3.size
    have zB := kA.get.2.2
    refine (hco (B := B) (vs := [v3]) (H_sp er1) (by rw [flat_strs]; exact ScdL_iff.2 fun x hx => by obtain ⟨i, _, rfl⟩ := List.mem_map.1 hx; trivial) (.vcons hv3 .vnil) (tabW (by omega))).mono ?_
    rintro e w4 ⟨v4, rfl, hv4o, hb4⟩
    have hv4 := hv4o.d
    clear hv4o
    have b4 : Below B w w4 := (b2.trans (hb3.mono (by omega))).trans (hb4.mono (by omega))
    have hbox2 : w4.heap[w.heap.size]? = some (.cells #[v0, v1] 25 (0, 0)) := by
      have hlt := (Array.getElem?_eq_some_iff.1 kB.get.2).1
      rw [hb4.block _ (by omega), hb3.block _ (by omega)]; exact kB.get.2
    clear c0 c1 kB kC hv3 hb3 b2 hb4 z2 z3 zB
    obtain ⟨c0, c1⟩ := box2 hbox2
    have kB := Kept.mk (And.intro b4 (And.intro hbox2 hv4))
    clear b4 hbox2 hv4
    go_wp2_with fail
    -- toTy, for the program: in blocks of its own
    have zB := kA.get.2.2
    have z4 := kB.get.1.size
    refine (own_prog t hc B _ _ (by omega) (hagg kB.get.1.block).one).mono ?_
    rintro e w5 ⟨us, rfl, ht5, hb5⟩
    obtain ⟨b0, m0, b1, m1, rfl, _, _, _⟩ := TJ_Prog ht5
    have kC := Kept.mk (And.intro ht5 (And.intro hb5 trivial))
    have hbox5 : w5.heap[w.heap.size]? = some (.cells #[v0, v1] 25 (0, 0)) := by
      have hlt := (Array.getElem?_eq_some_iff.1 kB.get.2.1).1
      rw [hb5.block _ (by omega)]; exact kB.get.2.1
    clear c0 c1 ht5 hb5 zB z4
    obtain ⟨c0, c1⟩ := box2 hbox5
    have kD := Kept.mk hbox5
    clear hbox5
    go_wp2_with fail
    -- VarsOf
    obtain ⟨ht5, hb5, _⟩ := kC.get
    have zB := kA.get.2.2
    have z4 := kB.get.1.size
    have z5 := hb5.size
    have hl := ht5.le
    have ht6 := ht5.mono (w' := w5.alloc (Obj.cells #[.slice (some ⟨b0, 0, none⟩) t.Datas.length t.Datas.length, .slice (some ⟨b1, 0, none⟩) t.Decs.length t.Decs.length] 32)) fun k h1 h2 => Below.heap_alloc _ _ _ h2
    refine (hco (B := B) (vs := [_]) (H_im er2) (by rw [flat_strs]; exact ScdL_iff.2 fun x hx => by obtain ⟨i, _, rfl⟩ := List.mem_map.1 hx; trivial)
      (.vcons (Da_Prog ht6.d) .vnil) (tabW (by rw [World.size_alloc]; omega))).mono ?_
    rintro e w7 ⟨v7, rfl, ho7, hb7⟩
    simp only [World.size_alloc] at hb7 ho7
    have hbox7 : w7.heap[w.heap.size]? = some (.cells #[v0, v1] 25 (0, 0)) := by
      have hlt := (Array.getElem?_eq_some_iff.1 kD.get).1
      rw [hb7.block _ (by omega), Below.heap_alloc _ _ _ hlt]; exact kD.get
    have xbox7 : w7.heap[w5.heap.size]? = some (.cells #[.slice (some ⟨b0, 0, none⟩) t.Datas.length t.Datas.length, .slice (some ⟨b1, 0, none⟩) t.Decs.length t.Decs.length] 32 (0, 0)) := by
      rw [hb7.block _ (by omega)]; exact alloc_at rfl
    have hb47 : Below w4.heap.size w4 w7 := (hb5.alloc (by omega) _).trans (hb7.mono (by omega))
    have ht7 : TJ w7 w4.heap.size w5.heap.size [.slice (some ⟨b0, 0, none⟩) t.Datas.length t.Datas.length, .slice (some ⟨b1, 0, none⟩) t.Decs.length t.Decs.length] t.enc.cells := ht6.mono fun k h1 h2 => hb7.block k (by omega)
    have z7 := hb7.size
    simp only [World.size_alloc] at z7
    have kE := Kept.mk (And.intro hbox7 (And.intro xbox7 (And.intro hb47 (And.intro ht7 (And.intro ho7 (And.intro z4 (And.intro z5 z7)))))))
    obtain ⟨a7, cap7, hv7, _⟩ := ho7
    rw [List.length_map] at hv7
    subst hv7
    clear c0 c1 kD ht5 hb5 zB z4 z5 hl ht6 hb7 hbox7 xbox7 hb47 ht7 z7
    go_wp2_with fail
    -- the same
    obtain ⟨hbox7, xbox7, hb47, ht7, ho7, z4, z5, z7⟩ := kE.get
    have zB := kA.get.2.2
    have hv4 := kB.get.2.2
    have hlim : lim = 140737488355328 := rfl
    refine (hcp (B := B) (vs := [_, v4]) (H_eqS r (by omega)) (.vcons ho7.d (.vcons (hv4.mono hb47.block) .vnil)) (tabW (by omega))).mono ?_
    rintro e w8 ⟨v8, rfl, hv8, hb8⟩
    cases hv8
    have z8 := hb8.size
    have kF := Kept.mk (And.intro hb8 z8)
    have hbox8 := (hb8.block _ (by omega)).trans hbox7
    have xbox8 := (hb8.block _ (by omega)).trans xbox7
    clear hbox7 xbox7 hb47 ht7 ho7 z4 z5 z7 zB hv4 hlim hb8 z8
    obtain ⟨c0, c1⟩ := box2 hbox8
    obtain ⟨d0, d1⟩ := box2 xbox8
    have kG := Kept.mk (And.intro hbox8 xbox8)
    clear hbox8 xbox8
    go_wp2_with fail
    -- what was handed over is as it was: in whatever order
    have hto : ∀ w' : World, Below w8.heap.size w8 w' → Calls Go.Proofs.Try.prog 6 #[.agg #[v0, v1]] w' fun e w'' => ∃ v, e = .returned v ∧ D B w'' (.val v t.enc) ∧ Below w8.heap.size w8 w'' := by
      intro w' h
      have z8 := kF.get.2
      obtain ⟨hbox7, xbox7, hb47, ht7, ho7, z4, z5, z7⟩ := kE.get
      have zB := kA.get.2.2
      have hb8 := kF.get.1
      have z' := h.size
      have hbB : Below B w w' := ((kB.get.1.trans (hb47.mono (by omega))).trans (hb8.mono (by omega))).trans (h.mono (by omega))
      refine (hcp (B := B) (H_to t hc) (hagg hbB.block) (tabW (by omega))).mono ?_
      rintro e w'' ⟨v, rfl, hv, hb⟩
      exact ⟨v, rfl, hv, h.trans (hb.mono z')⟩
    have heq : ∀ (w' : World) (v : Value), Below w8.heap.size w8 w' → D B w' (.val v t.enc) → Calls Go.Proofs.Try.prog 9 #[.agg #[.slice (some ⟨b0, 0, none⟩) t.Datas.length t.Datas.length, .slice (some ⟨b1, 0, none⟩) t.Decs.length t.Decs.length], v] w' fun e w'' => e = .returned (.bool true) ∧ Below w8.heap.size w8 w'' := by
      intro w' v h hv
      have z8 := kF.get.2
      obtain ⟨hbox7, xbox7, hb47, ht7, ho7, z4, z5, z7⟩ := kE.get
      have zB := kA.get.2.2
      have hb8 := kF.get.1
      have z' := h.size
      have ht' : TJ w' w4.heap.size w5.heap.size [.slice (some ⟨b0, 0, none⟩) t.Datas.length t.Datas.length, .slice (some ⟨b1, 0, none⟩) t.Decs.length t.Decs.length] t.enc.cells := (ht7.mono fun k h1 h2 => hb8.block k (by omega)).mono fun k h1 h2 => h.block k (by omega)
      refine (hcp (B := B) (vs := [_, v]) (H_eqT t hs) (.vcons (Da_Prog ht'.d) (.vcons hv .vnil)) (tabW (by omega))).mono ?_
      rintro e w'' ⟨v', rfl, hv', hb⟩
      cases hv'
      exact ⟨rfl, h.trans (hb.mono z')⟩
    have hcells : ∀ w' : World, Below w8.heap.size w8 w' → w'.cell? ⟨w.heap.size, 0, none⟩ = some v0 ∧ w'.cell? ⟨w.heap.size, 1, none⟩ = some v1 ∧
        w'.cell? ⟨w5.heap.size, 0, none⟩ = some (.slice (some ⟨b0, 0, none⟩) t.Datas.length t.Datas.length) ∧ w'.cell? ⟨w5.heap.size, 1, none⟩ = some (.slice (some ⟨b1, 0, none⟩) t.Decs.length t.Decs.length) ∧ Below w8.heap.size w8 w' := by
      intro w' h
      have q1 := (h.block _ (Array.getElem?_eq_some_iff.1 kG.get.1).1).trans kG.get.1
      have q2 := (h.block _ (Array.getElem?_eq_some_iff.1 kG.get.2).1).trans kG.get.2
      obtain ⟨a0, a1⟩ := box2 q1
      obtain ⟨e0, e1⟩ := box2 q2
      exact ⟨a0, a1, e0, e1, h⟩
    have hw8 : Below w8.heap.size w8 w8.drew := (Below.refl w8.heap.size w8).drew
    go_region_held3 (fun w' => w'.cell? ⟨w.heap.size, 0, none⟩ = some v0 ∧ w'.cell? ⟨w.heap.size, 1, none⟩ = some v1 ∧
        w'.cell? ⟨w5.heap.size, 0, none⟩ = some (.slice (some ⟨b0, 0, none⟩) t.Datas.length t.Datas.length) ∧ w'.cell? ⟨w5.heap.size, 1, none⟩ = some (.slice (some ⟨b1, 0, none⟩) t.Decs.length t.Decs.length) ∧ Below w8.heap.size w8 w')
      (first | exact hcells _ (by assumption) | go_keep)
      (first
        | (go_at_call 6; refine (hto _ (by assumption)).mono ?_; rintro e w9 ⟨v9, rfl, hv9, hw9⟩)
        | (go_at_call 9; refine (heq _ _ (by assumption) (by assumption)).mono ?_; rintro e w10 ⟨rfl, hw10⟩))
    have k10 := Kept.mk hw10
    obtain ⟨c0, c1, d0, d1, _⟩ := hcells _ hw10
    have kcells := Kept.mk hcells
    have kto := Kept.mk hto
    clear hw10 hcells hto heq hw8 hv9 hw9
    go_wp2_with fail
    -- marked
    have z8 := kF.get.2
    have hb8 := kF.get.1
    obtain ⟨hbox7, xbox7, hb47, ht7, ho7, z4, z5, z7⟩ := kE.get
    have zB := kA.get.2.2
    have z10 := k10.get.size
    have hco := Prog.cost_eq t
    have hmk : mkN Data.cost t.Datas + mkN Dec.cost t.Decs ≤ 4194304 := by unfold mkN; omega
    have ht10 : TJ w10 w4.heap.size w5.heap.size [.slice (some ⟨b0, 0, none⟩) t.Datas.length t.Datas.length, .slice (some ⟨b1, 0, none⟩) t.Decs.length t.Decs.length] t.enc.cells := (ht7.mono fun k h1 h2 => hb8.block k (by omega)).mono fun k h1 h2 => k10.get.block k (by omega)
    refine (mark_prog t ht10 (by omega) (k := 1) (by omega) (by omega)).mono ?_
    rintro e w11 ⟨k', rfl, g1, g2, ho⟩
    have b410 : Below w4.heap.size w4 w10 := (hb47.trans (hb8.mono (by omega))).trans (k10.get.mono (by omega))
    have b411 : Below w4.heap.size w4 w11 := b410.trans (ho.below (by omega))
    have hi7 := ho7.strs
    have hi11 : StrsAt (w5.heap.size + 1) w11 a7 cap7 r := by
      refine ((hi7.mono hb8.size fun k h1 h2 => hb8.block k (by omega)).mono z10 fun k h1 h2 => k10.get.block k (by omega)).mono ho.size fun k h1 h2 => ho.heap k (by omega) (by omega)
    have hbox11 : w11.heap[w.heap.size]? = some (.cells #[v0, v1] 25 (0, 0)) := by
      have := kB.get.1.size
      rw [b411.block _ (Array.getElem?_eq_some_iff.1 kB.get.2.1).1]; exact kB.get.2.1
    have kH := Kept.mk (And.intro b411 (And.intro hi11 hbox11))
    have g3 : (0 : Int) ≤ k' := by omega
    have kk := Kept.mk g2
    clear c0 c1 d0 d1 z8 hb8 hbox7 xbox7 hb47 ht7 ho7 z4 z5 z7 zB z10 hco hmk ht10 g1 g2 ho b410 b411 hi7 hi11 hbox11
    go_wp2_with fail
    have hlim : lim = 140737488355328 := rfl
    have tab12 : B ≤ w11.heap.size := by have := kH.get.1.size; have := kB.get.1.size; have := kA.get.2.2; omega
    refine (hcp (B := B) (vs := [_, v4]) (H_eqS r (by omega)) (.vcons (kH.get.2.1.d (by omega)) (.vcons (kB.get.2.2.mono kH.get.1.block) .vnil)) (tabW tab12)).mono ?_
    rintro e w12 ⟨v12, rfl, hv12, hb12⟩
    cases hv12
    have kI := Kept.mk (And.intro hb12 tab12)
    clear hb12 tab12
    go_wp2_with fail
    -- marks on what came back
    have hi12 := kH.get.2.1.mono kI.get.1.size fun k _ h2 => kI.get.1.block k h2
    refine (markStringS_raw (w := w12) (p := a7) (n := r.length) (cap := cap7) (k := 1) hvl (by omega) (by omega) (fun h => by obtain ⟨b', c, ty, e1, _, e3, e4⟩ := hi12.room h; exact ⟨b', c, ty, e1, e3, e4⟩)).mono ?_
    rintro e w13 ⟨rfl, m0, m1⟩
    have hi13 : StrsAt (w5.heap.size + 1) w13 a7 cap7 (mtFrom 1 r.length) ∧ Below (w5.heap.size + 1) w12 w13 := by
      by_cases hn0 : r.length = 0
      · rw [m0 hn0, hn0]
        have : r = [] := List.length_eq_zero_iff.1 hn0
        rw [this] at hi12
        exact ⟨hi12, .refl _ _⟩
      · obtain ⟨b', c', ty, e1, e2, e3, e4⟩ := hi12.room hn0
        obtain ⟨ho, c, ty', f1, f2, f3⟩ := m1 b' hn0 e1
        have hlt := (Array.getElem?_eq_some_iff.1 e3).1
        rcases hi12.2 with ⟨h, _⟩ | ⟨b2, _, _, h1, _, _, h4, _, _⟩
        · rw [h] at hn0; simp at hn0
        refine ⟨⟨mtFrom_small _ _ (by omega) (by omega), .inr ⟨b', c, ty', e1, e2, by have := ho.size; omega, by rw [mtFrom_len]; exact h4, f1, fun i x hx => ?_⟩⟩, (ho.below (by omega)).mono e2⟩
        have hi := (List.getElem?_eq_some_iff.1 hx).1
        rw [mtFrom_len] at hi
        rw [mtFrom_get _ _ _ hi] at hx
        cases hx
        exact f3 i hi
    have hbox12 := (kI.get.1.block _ (Array.getElem?_eq_some_iff.1 kH.get.2.2).1).trans kH.get.2.2
    have b412 : Below w4.heap.size w4 w12 := kH.get.1.trans (kI.get.1.mono (by have := kH.get.1.size; omega))
    have kJ := Kept.mk (And.intro hi13.1 (And.intro hi13.2 (And.intro hbox12 b412)))
    clear hi12 m0 m1 hi13 hbox12 b412
    go_wp2_with fail
    have held : ∀ W : World, Below w13.heap.size w13 W → Calls Go.Proofs.Try.prog 12 #[.slice a7 r.length cap7, .int .i64 1] W fun e W' => e = .returned (.int .i64 (1 + (r.length : Int))) ∧ Below w13.heap.size w13 W' := by
      intro W h
      have hd := (kJ.get.1.mono h.size fun k _ h2 => h.block k h2).d (B := B) (by rw [mtFrom_len]; omega)
      rw [mtFrom_len] at hd
      have z13 := kJ.get.2.1.size
      have z12 := kI.get.1.size
      have := kI.get.2
      have zW := h.size
      refine (hcp (B := B) (vs := [_, .int .i64 1]) (H_held _ hvl) (.vcons hd (.vcons .int .vnil)) (tabW (by omega))).mono ?_
      rintro e W' ⟨v, rfl, hv, hb⟩
      cases hv
      exact ⟨rfl, h.trans (hb.mono zW)⟩
    have hbox13 : w13.heap[w.heap.size]? = some (.cells #[v0, v1] 25 (0, 0)) := by
      obtain ⟨_, h2, h3, h4⟩ := kJ.get
      have z4 := kB.get.1.size
      have := (Array.getElem?_eq_some_iff.1 kB.get.2.1).1
      have z5 := kC.get.2.1.size
      rw [h2.block _ (by omega)]; exact h3
    have b413 : Below w4.heap.size w4 w13 := by
      obtain ⟨_, h2, h3, h4⟩ := kJ.get
      have z5 := kC.get.2.1.size
      exact h4.trans (h2.mono (by omega))
    have b13 : Below B w w13 := kB.get.1.trans (b413.mono (by have := kB.get.1.size; have := kA.get.2.2; omega))
    refine (held w13 (Below.refl _ _)).mono ?_
    rintro e w14 ⟨rfl, hb14⟩
    obtain ⟨c0, c1⟩ := box2 ((hb14.block _ (Array.getElem?_eq_some_iff.1 hbox13).1).trans hbox13)
    have q1 : ¬ (1 + (r.length : Int) < 0) := by omega
    have kL := Kept.mk (And.intro hb14 (And.intro b413 b13))
    have kheld := Kept.mk held
    clear held hbox13 hb14 b413 b13
    go_wp2_with fail
    -- once more
    have zA : B ≤ w14.heap.size ∧ w13.heap.size ≤ w14.heap.size ∧ w4.heap.size ≤ w13.heap.size ∧ B ≤ w13.heap.size := by
      have h1 := kL.get.1.size
      have h2 := kL.get.2.1.size
      have h3 := kL.get.2.2.size
      have h4 := kA.get.2.2
      omega
    have b14 : Below B w w14 := kL.get.2.2.trans (kL.get.1.mono zA.2.2.2)
    refine (hcp (B := B) (H_to t hc) (hagg b14.block) (tabW zA.1)).mono ?_
    rintro e w15 ⟨v15, rfl, hv15, hb15⟩
    have kM := Kept.mk (And.intro hv15 (And.intro hb15 (And.intro zA b14)))
    clear hv15 hb15 b14 zA c0 c1
    go_wp2_with fail
    obtain ⟨hv15, hb15, zA, b14⟩ := kM.get
    have z15 := hb15.size
    refine (hco (B := B) (vs := [v15]) (H_im er2) (by rw [flat_strs]; exact ScdL_iff.2 fun x hx => by obtain ⟨i, _, rfl⟩ := List.mem_map.1 hx; trivial)
      (.vcons hv15 .vnil) (tabW (by omega))).mono ?_
    rintro e w16 ⟨v16, rfl, ho16, hb16⟩
    have hb1316 : Below w13.heap.size w13 w16 := (kL.get.1.trans (hb15.mono zA.2.1)).trans (hb16.mono (by omega))
    have z16 := hb16.size
    have kN := Kept.mk (And.intro ho16.d (And.intro hb1316 (And.intro z16 (And.intro z15 zA))))
    obtain ⟨a16, cap16, hv16, _⟩ := ho16
    rw [List.length_map] at hv16
    subst hv16
    clear hv15 hb15 zA b14 z15 hb16 hb1316 z16
    go_wp2_with fail
    obtain ⟨hd16, hb1316, z16, z15, zA⟩ := kN.get
    refine (hcp (B := B) (vs := [_, v4]) (H_eqS r (by omega)) (.vcons hd16 (.vcons ((kB.get.2.2.mono kL.get.2.1.block).mono hb1316.block) .vnil)) (tabW (by omega))).mono ?_
    rintro e w17 ⟨v17, rfl, hv17, hb17⟩
    cases hv17
    have kO := Kept.mk (hb1316.trans (hb17.mono hb1316.size))
    clear hd16 hb1316 z16 z15 zA hb17
    go_wp2_with fail
    refine (kheld.get w17 kO.get).mono ?_
    rintro e w18 ⟨rfl, hb18⟩
    have kP := Kept.mk hb18
    clear hb18
    go_wp2_with fail
    go_ret
    have h3 := kL.get.2.2
    have h4 := kA.get.2.2
    subst h4
    exact ⟨rfl, h3.trans (kP.get.mono (by have := kM.get.2.2.1; omega))⟩
  · rw [rest_neg (by omega)]
    have kB := Kept.mk below2
    clear below1 below2 hbox hb2
    go_wp2_with fail
    go_ret
    have := kA.get.2.2
    subst this
    exact ⟨rfl, kB.get⟩
end Q
end W
end
section
/- Encodings, as the row wants them. -/
namespace W
set_option linter.unusedVariables false
open Go HL HL.X
theorem Ty.enc_eq (K_ : Int) (S_ : ByteArray) (N_ : Int) (L_ : List Ty) : Ty.enc (Ty.mk K_ S_ N_ L_) = .agg ([HV.int .i64 K_] ++ ([HV.str S_] ++ ([HV.int .i64 N_] ++ ([HV.sl (List.map Ty.enc L_)] ++ ([]))))) := by rw [Ty.enc]
theorem Con.enc_eq (Name_ : ByteArray) (Args_ : List Ty) : Con.enc (Con.mk Name_ Args_) = .agg ([HV.str Name_] ++ ([HV.sl (List.map Ty.enc Args_)] ++ ([]))) := by rw [Con.enc]
theorem Data.enc_eq (Name_ : ByteArray) (Cons_ : List Con) : Data.enc (Data.mk Name_ Cons_) = .agg ([HV.str Name_] ++ ([HV.sl (List.map Con.enc Cons_)] ++ ([]))) := by rw [Data.enc]
theorem Exp.enc_eq (K_ : Int) (S_ : ByteArray) (N_ : Int) (L_ : List Exp) (Decs_ : List Dec) (Alts_ : List Alt) : Exp.enc (Exp.mk K_ S_ N_ L_ Decs_ Alts_) = .agg ([HV.int .i64 K_] ++ ([HV.str S_] ++ ([HV.int .i64 N_] ++ ([HV.sl (List.map Exp.enc L_)] ++ ([HV.sl (List.map Dec.enc Decs_)] ++ ([HV.sl (List.map Alt.enc Alts_)] ++ ([]))))))) := by rw [Exp.enc]
theorem Dec.enc_eq (Name_ : ByteArray) (Pars_ : List ByteArray) (E_ : Exp) (Where_ : List Dec) : Dec.enc (Dec.mk Name_ Pars_ E_ Where_) = .agg ([HV.str Name_] ++ ([HV.sl (List.map HV.str Pars_)] ++ ((Exp.enc E_).cells ++ ([HV.sl (List.map Dec.enc Where_)] ++ ([]))))) := by rw [Dec.enc]
theorem Alt.enc_eq (Great_ : ByteArray) (Vars_ : List ByteArray) (E_ : Exp) : Alt.enc (Alt.mk Great_ Vars_ E_) = .agg ([HV.str Great_] ++ ([HV.sl (List.map HV.str Vars_)] ++ ((Exp.enc E_).cells ++ ([])))) := by rw [Alt.enc]
theorem Prog.enc_eq (Datas_ : List Data) (Decs_ : List Dec) : Prog.enc (Prog.mk Datas_ Decs_) = .agg ([HV.sl (List.map Data.enc Datas_)] ++ ([HV.sl (List.map Dec.enc Decs_)] ++ ([]))) := by rw [Prog.enc]
end W
end
