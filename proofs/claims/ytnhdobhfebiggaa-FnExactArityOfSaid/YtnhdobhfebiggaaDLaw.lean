import Derived.Test.YtnhdobhfebiggaaDFam
namespace W
set_option linter.unusedSimpArgs false
open Go HL
set_option linter.unusedVariables false
set_option maxRecDepth 100000
set_option maxHeartbeats 4000000
namespace Q
theorem foldS_find {α γ : Type} (f : α → Option γ) (l : List α) :
    foldS (fun (_ : Unit) (x : α) => match f x with | some r => (.inl (.inl r) : Sum (Sum γ Unit) Unit) | none => .inr ()) (fun _ => .inr ()) l () = match l.findSome? f with | some r => .inl r | none => .inr () := by
  induction l with
  | nil => rfl
  | cons x l ih =>
    simp only [foldS, List.findSome?_cons]
    cases f x with
    | none => exact ih
    | some r => rfl
theorem findLoop {α γ : Type} {l : List α} (hl : l.length ≤ lim) {L : Int → Option (Sum γ Unit)} (f : α → Option γ)
    (hL : ∀ (i : Nat) (x : α), x ∈ l → ix l i = some x → (i : Int) < (l.length : Nat) → IntKind.i64.wrap ((i : Int) + 1) = ((i + 1 : Nat) : Int) → L i = match f x with | some r => some (.inl r) | none => L ((i + 1 : Nat) : Int))
    (hend : L (l.length : Nat) = some (.inr ())) : L 0 = some (match l.findSome? f with | some r => .inl r | none => .inr ()) := by
  rw [← foldS_find f l]
  exact idxLoop hl (L := fun _ i => L i) _ _ (fun b i x hx hi hw => by
    rw [hL i x (List.mem_of_getElem? hx) (ix_of hx) (by omega) hw]
    cases f x <;> rfl) (fun _ => hend) ()
theorem fs_map {α γ δ : Type} (f : α → Option γ) (h : γ → δ) (l : List α) : l.findSome? (fun x => (f x).map h) = (l.findSome? f).map h := by
  induction l with
  | nil => rfl
  | cons x l ih =>
    simp only [List.findSome?_cons]
    cases f x with
    | none => exact ih
    | some r => rfl

/-- what is found -/
def inn (g : ByteArray) (d : Data) : Option (Con × ByteArray × Bool) := d.Cons.findSome? fun c => if c.Name = g then some (c, d.Name, true) else none
def fnd (g : ByteArray) (p : Prog) : Option (Con × ByteArray × Bool) := p.Datas.findSome? (inn g)

theorem conOf (p : Prog) (hp : p.small) (g : ByteArray) : M.impl_conOf (p, g) = some (match fnd g p with | some r => r | none => (Con.mk (⟨⟨[]⟩⟩ : ByteArray) [], (⟨⟨[]⟩⟩ : ByteArray), false)) := by
  obtain ⟨hl, hm, _, _⟩ := (Prog.small_eq p).1 hp
  rw [M.impl_conOf]; try dsimp only
  have h : M.impl_conOf_L0 (g, p, 0) = _ := findLoop hl (L := fun i => M.impl_conOf_L0 (g, p, i)) (inn g) (fun i d hd hix hi hw => by
    show M.impl_conOf_L0 (g, p, i) = _
    rw [M.impl_conOf_L0]; try dsimp only
    rw [if_pos hi, hix, bind_some', hw]
    have h1 : M.impl_conOf_L1 (g, p, i, d, 0) = _ := findLoop ((Data.small_eq d).1 (hm d hd)).2.1 (L := fun j => M.impl_conOf_L1 (g, p, i, d, j)) (fun c => if c.Name = g then some (c, d.Name, true) else none) (fun j c _ hix hj hw => by
      show M.impl_conOf_L1 (g, p, i, d, j) = _
      rw [M.impl_conOf_L1]; try dsimp only
      rw [if_pos hj, hix, bind_some', hw]
      by_cases e : c.Name = g
      · rw [if_pos e, if_pos e]
      · rw [if_neg e, if_neg e]) (by
      show M.impl_conOf_L1 (g, p, i, d, _) = _
      rw [M.impl_conOf_L1]; try dsimp only
      rw [if_neg (by omega)])
    rw [h1, bind_some']
    unfold inn
    cases d.Cons.findSome? (fun c => if c.Name = g then some (c, d.Name, true) else none) <;> rfl) (by
    show M.impl_conOf_L0 (g, p, _) = _
    rw [M.impl_conOf_L0]; try dsimp only
    rw [if_neg (by omega)])
  rw [h, bind_some']
  unfold fnd
  cases p.Datas.findSome? (inn g) <;> rfl

theorem specDataOf (p : Prog) (hp : p.small) (g : ByteArray) : M.spec_DataOf (p, g) = some (if g = (⟨⟨[84, 114, 117, 101]⟩⟩ : ByteArray) then (⟨⟨[66, 111, 111, 108]⟩⟩ : ByteArray) else if g = (⟨⟨[70, 97, 108, 115, 101]⟩⟩ : ByteArray) then (⟨⟨[66, 111, 111, 108]⟩⟩ : ByteArray) else match fnd g p with | some r => r.2.1 | none => (⟨⟨[]⟩⟩ : ByteArray)) := by
  obtain ⟨hl, hm, _, _⟩ := (Prog.small_eq p).1 hp
  rw [M.spec_DataOf]; try dsimp only
  by_cases e1 : g = (⟨⟨[84, 114, 117, 101]⟩⟩ : ByteArray)
  · rw [if_pos e1, if_pos e1]
  rw [if_neg e1, if_neg e1]
  by_cases e2 : g = (⟨⟨[70, 97, 108, 115, 101]⟩⟩ : ByteArray)
  · rw [if_pos e2, if_pos e2]
  rw [if_neg e2, if_neg e2]
  have h : M.spec_DataOf_L0 (g, p, 0) = _ := findLoop hl (L := fun i => M.spec_DataOf_L0 (g, p, i)) (fun d => (inn g d).map fun r => r.2.1) (fun i d hd hix0 hi hw => by
    show M.spec_DataOf_L0 (g, p, i) = _
    rw [M.spec_DataOf_L0]; try dsimp only
    rw [if_pos hi, hw]
    have h1 : M.spec_DataOf_L1 (g, i, p, 0) = _ := findLoop ((Data.small_eq d).1 (hm d hd)).2.1 (L := fun j => M.spec_DataOf_L1 (g, i, p, j)) (fun c => (if c.Name = g then some (c, d.Name, true) else none).map fun r => r.2.1) (fun j c _ hix hj hw => by
      show M.spec_DataOf_L1 (g, i, p, j) = _
      rw [M.spec_DataOf_L1]; try dsimp only
      rw [hix0, bind_some', if_pos hj, hix, bind_some', hw]
      by_cases e : c.Name = g
      · rw [if_pos e, if_pos e]; rfl
      · rw [if_neg e, if_neg e]; rfl) (by
      show M.spec_DataOf_L1 (g, i, p, _) = _
      rw [M.spec_DataOf_L1]; try dsimp only
      rw [hix0, bind_some', if_neg (by omega)])
    rw [h1, bind_some', fs_map]
    unfold inn
    cases d.Cons.findSome? (fun c => if c.Name = g then some (c, d.Name, true) else none) <;> rfl) (by
    show M.spec_DataOf_L0 (g, p, _) = _
    rw [M.spec_DataOf_L0]; try dsimp only
    rw [if_neg (by omega)])
  rw [h, bind_some', fs_map]
  unfold fnd
  cases p.Datas.findSome? (inn g) <;> rfl

theorem specArityOf (p : Prog) (hp : p.small) (g : ByteArray) : M.spec_ArityOf (p, g) = some (if g = (⟨⟨[84, 114, 117, 101]⟩⟩ : ByteArray) then 0 else if g = (⟨⟨[70, 97, 108, 115, 101]⟩⟩ : ByteArray) then 0 else match fnd g p with | some r => ((r.1.Args.length : Nat) : Int) | none => (-1)) := by
  obtain ⟨hl, hm, _, _⟩ := (Prog.small_eq p).1 hp
  rw [M.spec_ArityOf]; try dsimp only
  by_cases e1 : g = (⟨⟨[84, 114, 117, 101]⟩⟩ : ByteArray)
  · rw [if_pos e1, if_pos e1]
  rw [if_neg e1, if_neg e1]
  by_cases e2 : g = (⟨⟨[70, 97, 108, 115, 101]⟩⟩ : ByteArray)
  · rw [if_pos e2, if_pos e2]
  rw [if_neg e2, if_neg e2]
  have h : M.spec_ArityOf_L0 (g, p, 0) = _ := findLoop hl (L := fun i => M.spec_ArityOf_L0 (g, p, i)) (fun d => (inn g d).map fun r => ((r.1.Args.length : Nat) : Int)) (fun i d hd hix0 hi hw => by
    show M.spec_ArityOf_L0 (g, p, i) = _
    rw [M.spec_ArityOf_L0]; try dsimp only
    rw [if_pos hi, hw]
    have h1 : M.spec_ArityOf_L1 (g, i, p, 0) = _ := findLoop ((Data.small_eq d).1 (hm d hd)).2.1 (L := fun j => M.spec_ArityOf_L1 (g, i, p, j)) (fun c => (if c.Name = g then some (c, d.Name, true) else none).map fun r => ((r.1.Args.length : Nat) : Int)) (fun j c _ hix hj hw => by
      show M.spec_ArityOf_L1 (g, i, p, j) = _
      rw [M.spec_ArityOf_L1]; try dsimp only
      rw [hix0, bind_some', if_pos hj, hix, bind_some', hw]
      by_cases e : c.Name = g
      · rw [if_pos e, if_pos e]; rfl
      · rw [if_neg e, if_neg e]; rfl) (by
      show M.spec_ArityOf_L1 (g, i, p, _) = _
      rw [M.spec_ArityOf_L1]; try dsimp only
      rw [hix0, bind_some', if_neg (by omega)])
    rw [h1, bind_some', fs_map]
    unfold inn
    cases d.Cons.findSome? (fun c => if c.Name = g then some (c, d.Name, true) else none) <;> rfl) (by
    show M.spec_ArityOf_L0 (g, p, _) = _
    rw [M.spec_ArityOf_L0]; try dsimp only
    rw [if_neg (by omega)])
  rw [h, bind_some', fs_map]
  unfold fnd
  cases p.Datas.findSome? (inn g) <;> rfl

theorem fnd_true (g : ByteArray) (p : Prog) (r : Con × ByteArray × Bool) (h : fnd g p = some r) : r.2.2 = true := by
  unfold fnd at h
  obtain ⟨d, _, hd⟩ := List.exists_of_findSome?_eq_some h
  unfold inn at hd
  obtain ⟨c, _, hc⟩ := List.exists_of_findSome?_eq_some hd
  split at hc
  · cases hc; rfl
  · cases hc

theorem lawDataOf (p : Prog) (g : ByteArray) (hp : p.small) (hg : g.size ≤ lim) : M.laws_FnExactDataOf (p, g) = some true := by
  rw [M.laws_FnExactDataOf]; try dsimp only
  by_cases h0 : (1048576 : Int) < ((g.size : Nat) : Int)
  · rw [if_pos h0]
  rw [if_neg h0, szProg p hp 1048576 (by omega) (by omega), bind_some']
  by_cases h1 : (p.cost : Int) ≤ 1048576
  rotate_left
  · rw [rest_neg h1, if_pos (by omega)]
  rw [rest_pos h1, if_neg (by omega)]
  have hi : M.impl_DataOf (p, g) = some (if g = (⟨⟨[84, 114, 117, 101]⟩⟩ : ByteArray) then (⟨⟨[66, 111, 111, 108]⟩⟩ : ByteArray) else if g = (⟨⟨[70, 97, 108, 115, 101]⟩⟩ : ByteArray) then (⟨⟨[66, 111, 111, 108]⟩⟩ : ByteArray) else match fnd g p with | some r => r.2.1 | none => (⟨⟨[]⟩⟩ : ByteArray)) := by
    rw [M.impl_DataOf]; try dsimp only
    rw [M.impl_isBool]; try dsimp only
    by_cases e1 : g = (⟨⟨[84, 114, 117, 101]⟩⟩ : ByteArray)
    · rw [if_pos e1, if_pos e1, bind_some', if_pos rfl]
    rw [if_neg e1, if_neg e1, bind_some']
    by_cases e2 : g = (⟨⟨[70, 97, 108, 115, 101]⟩⟩ : ByteArray)
    · rw [if_pos (decide_eq_true e2), if_pos e2]
    rw [if_neg (by simpa using e2), if_neg e2, conOf p hp g, bind_some']
    cases fnd g p <;> rfl
  rw [toProg p (by omega), bind_some', specDataOf p hp g, bind_some', bind_some', hi, bind_some', if_pos rfl, bind_some', eqProg p hp p, bind_some', if_pos (by simp)]

theorem lawArityOf (p : Prog) (g : ByteArray) (hp : p.small) (hg : g.size ≤ lim) : M.laws_FnExactArityOf (p, g) = some true := by
  rw [M.laws_FnExactArityOf]; try dsimp only
  by_cases h0 : (1048576 : Int) < ((g.size : Nat) : Int)
  · rw [if_pos h0]
  rw [if_neg h0, szProg p hp 1048576 (by omega) (by omega), bind_some']
  by_cases h1 : (p.cost : Int) ≤ 1048576
  rotate_left
  · rw [rest_neg h1, if_pos (by omega)]
  rw [rest_pos h1, if_neg (by omega)]
  have hi : M.impl_ArityOf (p, g) = some (if g = (⟨⟨[84, 114, 117, 101]⟩⟩ : ByteArray) then 0 else if g = (⟨⟨[70, 97, 108, 115, 101]⟩⟩ : ByteArray) then 0 else match fnd g p with | some r => ((r.1.Args.length : Nat) : Int) | none => (-1)) := by
    rw [M.impl_ArityOf]; try dsimp only
    rw [conOf p hp g, bind_some', M.impl_isBool]; try dsimp only
    by_cases e1 : g = (⟨⟨[84, 114, 117, 101]⟩⟩ : ByteArray)
    · rw [if_pos e1, if_pos e1, bind_some', if_pos rfl]
    rw [if_neg e1, if_neg e1, bind_some']
    by_cases e2 : g = (⟨⟨[70, 97, 108, 115, 101]⟩⟩ : ByteArray)
    · rw [if_pos (decide_eq_true e2), if_pos e2]
    rw [if_neg (by simpa using e2), if_neg e2]
    cases h : fnd g p with
    | none => exact if_neg (by simp)
    | some r => exact if_pos (fnd_true g p r h)
  rw [toProg p (by omega), bind_some', specArityOf p hp g, bind_some', bind_some', hi, bind_some', if_pos rfl, bind_some', eqProg p hp p, bind_some', if_pos (by simp)]
end Q
end W
