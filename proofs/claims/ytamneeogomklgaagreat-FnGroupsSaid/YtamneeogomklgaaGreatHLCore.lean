/- HL: values and stores that a proof sees, and how they lie in the model's memory. Nothing of a seat is named here. -/
import Derived.Tactics
import Derived.Lib.LaidTab
import Derived.Lib.ItoaNum
import Derived.Below
import Derived.Laws.World
import Derived.Laws.Cells
import Derived.Laws.Sem
set_option linter.unusedSimpArgs false
set_option linter.unusedVariables false
set_option linter.unusedSectionVars false
namespace HL
open Go
inductive HV where
  | int (k : IntKind) (n : Int)
  | bool (b : Bool)
  | str (s : ByteArray)
  | nilp
  | nils
  | nilf
  | ptr (id n i off : Nat)
  | eptr (l : List HV) (sz i off : Nat)
  | sl (l : List HV)
  | fl (f : Bool) (l : List HV)
  | own (id n : Nat)
  | otl (id n i : Nat)
  | agg (cs : List HV)
  | tup (l : List HV)
  | fn (f : FuncId) (first caps : List HV)
  deriving Inhabited
def HV.cells : HV → List HV
  | .agg cs => cs
  | v => [v]
def HV.flat : HV → Bool
  | .agg _ => false
  | .tup _ => false
  | _ => true
def HV.isAgg : HV → Bool
  | .agg _ => true
  | _ => false
def undefH : HV := .tup []
def lim : Nat := 140737488355328
structure Info where
  blk : Option Nat
  sz : Nat
  n : Nat
  cap : Nat
structure Gh where
  base : Nat
  K : Nat → Nat → Option Value
  s : List Info
inductive J where
  | val (v : Value) (h : HV)
  | vals (vs : List Value) (hs : List HV)
def Uni (sz : Nat) (l : List HV) : Prop := ∀ x ∈ l, x.cells.length = sz
abbrev flatL (l : List HV) : List HV := l.flatMap HV.cells
inductive R (G : Gh) : J → Prop
  | int {k : IntKind} {n : Int} : R G (.val (.int k n) (.int k n))
  | bool {b : Bool} : R G (.val (.bool b) (.bool b))
  | str {s : ByteArray} (hs : s.size ≤ lim) : R G (.val (.string s) (.str s))
  | nilp : R G (.val (.pointer none) .nilp)
  | nils {p : Option Addr} : R G (.val (.slice p 0 0) .nils)
  | nilf : R G (.val .nilFunc .nilf)
  | ptr {id n i off : Nat} {p : Addr} {info : Info} (hi : G.s[id]? = some info) (hn : n ≤ info.n)
      (hp : info.n = n → ∃ b, info.blk = some b ∧ p = ⟨b, i * info.sz + off, none⟩) : R G (.val (.pointer (some p)) (.ptr id n i off))
  | own {id n : Nat} {a : Option Addr} {cap : Nat} {info : Info} (hi : G.s[id]? = some info) (hn : n ≤ info.n)
      (hp : info.n = n → (∀ b, info.blk = some b → a = some ⟨b, 0, none⟩) ∧ cap = info.cap) : R G (.val (.slice a n cap) (.own id n))
  | otl {id n i m : Nat} {a : Option Addr} {cap : Nat} {info : Info} (hi : G.s[id]? = some info) (hn : n ≤ info.n)
      (hp : info.n = n → i ≤ n ∧ m = n - i ∧ (m ≠ 0 → ∀ b, info.blk = some b → a = some ⟨b, i * info.sz, none⟩)) : R G (.val (.slice a m cap) (.otl id n i))
  | sl {l : List HV} {sz b base cap n : Nat} (us : List Value) (hu : Uni sz l) (hr : R G (.vals us (flatL l)))
      (hk : ∀ k u, us[k]? = some u → G.K b (base + k) = some u) (hf : ∀ c ∈ flatL l, c.flat = true) (hc : l.length ≤ cap) (hn : n = l.length) (hl : l.length ≤ lim) :
      R G (.val (.slice (some ⟨b, base, none⟩) n cap) (.sl l))
  | sl0 {p : Option Addr} : R G (.val (.slice p 0 0) (.sl []))
  | fl {f : Bool} {l : List HV} {sz b base cap n : Nat} (us : List Value) (hu : Uni sz l) (hr : R G (.vals us (flatL l)))
      (hk : ∀ k u, us[k]? = some u → G.K b (base + k) = some u) (hf : ∀ c ∈ flatL l, c.flat = true) (hc : l.length ≤ cap) (hn : n = l.length) (hl : l.length ≤ lim) (hb : f = decide (G.base ≤ b)) :
      R G (.val (.slice (some ⟨b, base, none⟩) n cap) (.fl f l))
  | fl0 {f : Bool} {p : Option Addr} : R G (.val (.slice p 0 0) (.fl f []))
  | eptr {l : List HV} {sz b base i off : Nat} {p : Addr} (us : List Value) (hu : Uni sz l) (hr : R G (.vals us (flatL l)))
      (hk : ∀ k u, us[k]? = some u → G.K b (base + k) = some u) (hf : ∀ c ∈ flatL l, c.flat = true) (hp : p = ⟨b, base + i * sz + off, none⟩) :
      R G (.val (.pointer (some p)) (.eptr l sz i off))
  | agg {vs : List Value} {cs : List HV} (hf : ∀ c ∈ cs, c.flat = true) (h : R G (.vals vs cs)) : R G (.val (.agg vs.toArray) (.agg cs))
  | tup {vs : List Value} {cs : List HV} (h : R G (.vals vs cs)) : R G (.val (.tuple vs.toArray) (.tup cs))
  | fn {f : FuncId} {fs cs : List Value} {hf hc : List HV} (h1 : R G (.vals fs hf)) (h2 : R G (.vals cs hc)) :
      R G (.val (.func (.func f) fs.toArray cs.toArray) (.fn f hf hc))
  | vnil : R G (.vals [] [])
  | vcons {v : Value} {h : HV} {vs : List Value} {hs : List HV} (h1 : R G (.val v h)) (h2 : R G (.vals vs hs)) : R G (.vals (v :: vs) (h :: hs))
inductive HO where
  | box (v : HV)
  | arr (sz : Nat) (l : List HV) (mu : Bool)
  | dead
  deriving Inhabited
abbrev St := List HO
def HO.live : HO → Option (List HV × Bool)
  | .box v => some ([v], true)
  | .arr _ l m => some (l, m)
  | .dead => none
structure RLive (G : Gh) (w : World) (info : Info) (l : List HV) (mu : Bool) : Prop where
  n : info.n = l.length
  cap : l.length ≤ info.cap
  lm : l.length ≤ lim
  uni : Uni info.sz l
  flat : ∀ c ∈ flatL l, c.flat = true
  nil : (info.blk = none → info.cap = 0) ∧ info.cap ≤ 9223372036854775807
  row : ∀ b, info.blk = some b → ∃ (c : Array Value) (t : TypeId) (us : List Value), w.heap[b]? = some (.cells c t (0, 0)) ∧ info.cap * info.sz ≤ c.size ∧
    R G (.vals us (flatL l)) ∧ (∀ (k : Nat) (u : Value), us[k]? = some u → c[k]? = some u) ∧
    (∀ k, l.length * info.sz ≤ k → k < info.cap * info.sz → G.K b k = none) ∧
    (mu = true → ∀ k, k < l.length * info.sz → G.K b k = none) ∧
    (mu = false → ∀ (k : Nat) (u : Value), us[k]? = some u → G.K b k = some u)
def szOf : HO → Nat → Prop
  | .arr sz _ _, n => n = sz
  | .box v, n => n = v.cells.length
  | .dead, _ => True
def inS (s : List Info) (b : Nat) : Prop := ∃ (id : Nat) (info : Info), s[id]? = some info ∧ info.blk = some b
def TabW (P : Program) (G : Gh) (w : World) : Prop :=
  (G.base ≤ w.heap.size ∧ ∀ b, inS G.s b → G.base ≤ b) ∧ ∀ g, P.globalNamed "internal/strconv.uint64pow10" = some g → Lib.TabIs P w "internal/strconv.uint64pow10" .u64 Lib.pow10Tab ∧ ¬ inS G.s g
structure Rel (P : Program) (G : Gh) (st : St) (w : World) : Prop where
  len : G.s.length = st.length
  kc : ∀ b i u, G.K b i = some u → w.cell? ⟨b, i, none⟩ = some u
  obj : ∀ (id : Nat) (info : Info) (o : HO), G.s[id]? = some info → st[id]? = some o → szOf o info.sz ∧ ∀ l m, o.live = some (l, m) → RLive G w info l m
  dis : ∀ (id id' : Nat) (info info' : Info) (o o' : HO) (b b' : Nat), G.s[id]? = some info → G.s[id']? = some info' → st[id]? = some o → st[id']? = some o' → o.live.isSome → o'.live.isSome → id ≠ id' →
    info.blk = some b → info'.blk = some b' → b ≠ b'
  tab : TabW P G w
structure Step (G : Gh) (w : World) (G' : Gh) (w' : World) : Prop where
  bs : G'.base = G.base
  k : ∀ b i u, G.K b i = some u → G'.K b i = some u
  kn : ∀ b i u, G'.K b i = some u → G.K b i = some u ∨ w.heap.size ≤ b ∨ inS G.s b
  s : ∀ (id : Nat) (info : Info), G.s[id]? = some info → ∃ info', G'.s[id]? = some info' ∧ info.n ≤ info'.n ∧ info'.sz = info.sz ∧ (info'.n = info.n → info' = info)
  os : w'.os = w.os
  tape : w'.tape = w.tape
  output : w'.output = w.output
  size : w.heap.size ≤ w'.heap.size
  heap : ∀ k, k < w.heap.size → ¬ inS G.s k → w'.heap[k]? = w.heap[k]?
  new : ∀ b, inS G'.s b → inS G.s b ∨ w.heap.size ≤ b
theorem Step.refl (G : Gh) (w : World) : Step G w G w where
  bs := rfl
  k _ _ _ h := h
  kn _ _ _ h := .inl h
  s _ info h := ⟨info, h, Nat.le_refl _, rfl, fun _ => rfl⟩
  os := rfl
  tape := rfl
  output := rfl
  size := Nat.le_refl _
  heap _ _ _ := rfl
  new _ h := .inl h
theorem Step.trans {G G' G'' : Gh} {w w' w'' : World} (h : Step G w G' w') (h' : Step G' w' G'' w'') : Step G w G'' w'' where
  bs := h'.bs.trans h.bs
  k b i u hk := h'.k b i u (h.k b i u hk)
  kn b i u hk := by
    rcases h'.kn b i u hk with h1 | h1 | h1
    · exact h.kn b i u h1
    · exact .inr (.inl (Nat.le_trans h.size h1))
    · rcases h.new b h1 with h2 | h2
      · exact .inr (.inr h2)
      · exact .inr (.inl h2)
  s id info hi := by
    obtain ⟨i1, g1, l1, z1, e1⟩ := h.s id info hi
    obtain ⟨i2, g2, l2, z2, e2⟩ := h'.s id i1 g1
    refine ⟨i2, g2, by omega, by omega, fun e => ?_⟩
    have : i1.n = info.n := by omega
    have h1 := e1 this
    subst h1
    exact e2 e
  os := h'.os.trans h.os
  tape := h'.tape.trans h.tape
  output := h'.output.trans h.output
  size := Nat.le_trans h.size h'.size
  heap k hk hn := by
    rw [h'.heap k (Nat.lt_of_lt_of_le hk h.size) ?_, h.heap k hk hn]
    intro hin
    rcases h.new k hin with h1 | h1
    · exact hn h1
    · omega
  new b hin := by
    rcases h'.new b hin with h1 | h1
    · exact h.new b h1
    · exact .inr (Nat.le_trans h.size h1)
theorem TabW.of {P : Program} {G G' : Gh} {w w' : World} (h : TabW P G w) (hb : G'.base = G.base) (hz : w.heap.size ≤ w'.heap.size) (hh : ∀ k, k < w.heap.size → ¬ inS G.s k → w'.heap[k]? = w.heap[k]?)
    (hn : ∀ b, inS G'.s b → inS G.s b ∨ w.heap.size ≤ b) : TabW P G' w' := by
  refine ⟨⟨by rw [hb]; exact Nat.le_trans h.1.1 hz, fun b h3 => ?_⟩, ?_⟩
  · rw [hb]
    rcases hn b h3 with h | h'
    · exact ‹TabW P G w›.1.2 b h
    · exact Nat.le_trans h.1.1 h'
  intro g hg
  obtain ⟨h1, h2⟩ := h.2 g hg
  have hlt : g < w.heap.size := by
    rcases Nat.lt_or_ge g w.heap.size with h | h
    · exact h
    · simp [Lib.TabIs, World.var?, hg, Array.getElem?_eq_none h] at h1
  refine ⟨?_, fun h3 => ?_⟩
  · unfold Lib.TabIs World.var? at *
    simp only [hg, Option.bind_some] at h1 ⊢
    rw [hh g hlt h2]
    exact h1
  · rcases hn g h3 with h | h
    · exact h2 h
    · omega
theorem TabW.step {P : Program} {G G' : Gh} {w w' : World} (h : TabW P G w) (hs : Step G w G' w') : TabW P G' w' := h.of hs.bs hs.size hs.heap hs.new
theorem Rel.mk2 {P : Program} {G G' : Gh} {st st' : St} {w w' : World} (h : Rel P G st w) (len : G'.s.length = st'.length) (kc : ∀ b i u, G'.K b i = some u → w'.cell? ⟨b, i, none⟩ = some u)
    (obj : ∀ (id : Nat) (info : Info) (o : HO), G'.s[id]? = some info → st'[id]? = some o → szOf o info.sz ∧ ∀ l m, o.live = some (l, m) → RLive G' w' info l m)
    (dis : ∀ (id id' : Nat) (info info' : Info) (o o' : HO) (b b' : Nat), G'.s[id]? = some info → G'.s[id']? = some info' → st'[id]? = some o → st'[id']? = some o' → o.live.isSome → o'.live.isSome → id ≠ id' →
      info.blk = some b → info'.blk = some b' → b ≠ b') (hs : Step G w G' w') : Rel P G' st' w' ∧ Step G w G' w' := ⟨⟨len, kc, obj, dis, h.tab.step hs⟩, hs⟩
theorem R.mono_gh {G G' : Gh} (hb : G'.base = G.base) (hk : ∀ b i u, G.K b i = some u → G'.K b i = some u)
    (hs : ∀ (id : Nat) (info : Info), G.s[id]? = some info → ∃ info', G'.s[id]? = some info' ∧ info.n ≤ info'.n ∧ info'.sz = info.sz ∧ (info'.n = info.n → info' = info))
    {j : J} (h : R G j) : R G' j := by
  induction h with
  | int => exact .int
  | bool => exact .bool
  | str hs => exact .str hs
  | nilp => exact .nilp
  | nils => exact .nils
  | nilf => exact .nilf
  | ptr hi hn hp =>
    obtain ⟨i', g, l, _, e⟩ := hs _ _ hi
    refine .ptr g (by omega) fun h => ?_
    have := e (by omega)
    subst this
    exact hp h
  | own hi hn hp =>
    obtain ⟨i', g, l, _, e⟩ := hs _ _ hi
    refine .own g (by omega) fun h => ?_
    have := e (by omega)
    subst this
    exact hp h
  | otl hi hn hp =>
    obtain ⟨i', g, l, _, e⟩ := hs _ _ hi
    refine .otl g (by omega) fun h => ?_
    have := e (by omega)
    subst this
    exact hp h
  | sl us hu _ hk' hf hc hn hl ih => exact .sl us hu ih (fun k u h => hk _ _ _ (hk' k u h)) hf hc hn hl
  | sl0 => exact .sl0
  | fl us hu _ hk' hf hc hn hl hbb ih => exact .fl us hu ih (fun k u h => hk _ _ _ (hk' k u h)) hf hc hn hl (by rw [hb]; exact hbb)
  | fl0 => exact .fl0
  | eptr us hu _ hk' hf hp ih => exact .eptr us hu ih (fun k u h => hk _ _ _ (hk' k u h)) hf hp
  | agg hf _ ih => exact .agg hf ih
  | tup _ ih => exact .tup ih
  | fn _ _ ih1 ih2 => exact .fn ih1 ih2
  | vnil => exact .vnil
  | vcons _ _ ih1 ih2 => exact .vcons ih1 ih2
theorem R.mono {G G' : Gh} {w w' : World} {j : J} (h : R G j) (hs : Step G w G' w') : R G' j := h.mono_gh hs.bs hs.k hs.s
theorem R.vals_length {G : Gh} {vs : List Value} {hs : List HV} (h : R G (.vals vs hs)) : vs.length = hs.length := by
  generalize hj : J.vals vs hs = j at h
  induction h generalizing vs hs with
  | vnil => cases hj; rfl
  | vcons _ _ _ ih2 => cases hj; simp [ih2 rfl]
  | _ => cases hj
theorem R.vals_cons {G : Gh} {v : Value} {vs : List Value} {h : HV} {hs : List HV} (r : R G (.vals (v :: vs) (h :: hs))) : R G (.val v h) ∧ R G (.vals vs hs) := by
  cases r with
  | vcons h1 h2 => exact ⟨h1, h2⟩
theorem R.vals_get {G : Gh} {vs : List Value} {hs : List HV} (r : R G (.vals vs hs)) : ∀ (i : Nat) (h : HV), hs[i]? = some h → ∃ v, vs[i]? = some v ∧ R G (.val v h) := by
  induction hs generalizing vs with
  | nil => intro i h hi; simp at hi
  | cons x hs ih =>
    intro i h hi
    cases r with
    | vcons h1 h2 =>
      cases i with
      | zero => simp at hi; subst hi; exact ⟨_, rfl, h1⟩
      | succ i => simpa using ih h2 i h (by simpa using hi)
theorem R.vals_get' {G : Gh} {vs : List Value} {hs : List HV} (r : R G (.vals vs hs)) (i : Nat) (v : Value) (hv : vs[i]? = some v) : ∃ h, hs[i]? = some h ∧ R G (.val v h) := by
  have hl := r.vals_length
  have hlt : i < hs.length := by
    have : i < vs.length := by
      rcases Nat.lt_or_ge i vs.length with h | h
      · exact h
      · simp [List.getElem?_eq_none h] at hv
    omega
  obtain ⟨v', hv', hr⟩ := r.vals_get i hs[i] (List.getElem?_eq_getElem hlt)
  rw [hv] at hv'
  cases hv'
  exact ⟨_, List.getElem?_eq_getElem hlt, hr⟩
theorem R.vals_append {G : Gh} {vs vs' : List Value} {hs hs' : List HV} (r : R G (.vals vs hs)) (r' : R G (.vals vs' hs')) : R G (.vals (vs ++ vs') (hs ++ hs')) := by
  induction hs generalizing vs with
  | nil => cases r; exact r'
  | cons x hs ih => cases r with | vcons h1 h2 => exact .vcons h1 (ih h2)
theorem R.vals_drop {G : Gh} {vs : List Value} {hs : List HV} (r : R G (.vals vs hs)) (n : Nat) : R G (.vals (vs.drop n) (hs.drop n)) := by
  induction n generalizing vs hs with
  | zero => simpa using r
  | succ n ih =>
    cases hs with
    | nil => cases r; exact .vnil
    | cons x hs => cases r with | vcons h1 h2 => simpa using ih h2
theorem R.vals_take {G : Gh} {vs : List Value} {hs : List HV} (r : R G (.vals vs hs)) (n : Nat) : R G (.vals (vs.take n) (hs.take n)) := by
  induction n generalizing vs hs with
  | zero => simpa using R.vnil
  | succ n ih =>
    cases hs with
    | nil => cases r; exact .vnil
    | cons x hs => cases r with | vcons h1 h2 => simpa using R.vcons h1 (ih h2)
theorem R.cells {G : Gh} {v : Value} {h : HV} (r : R G (.val v h)) (ht : ∀ l, h ≠ .tup l) : R G (.vals v.cells.toList h.cells) := by
  cases r with
  | agg _ h => simpa [Value.cells, HV.cells] using h
  | tup h => exact absurd rfl (ht _)
  | int => exact .vcons .int .vnil
  | bool => exact .vcons .bool .vnil
  | str hs => exact .vcons (.str hs) .vnil
  | nilp => exact .vcons .nilp .vnil
  | nils => exact .vcons .nils .vnil
  | nilf => exact .vcons .nilf .vnil
  | ptr a b c => exact .vcons (.ptr a b c) .vnil
  | own a b c => exact .vcons (.own a b c) .vnil
  | otl a b c => exact .vcons (.otl a b c) .vnil
  | sl a b c d e f g h => exact .vcons (.sl a b c d e f g h) .vnil
  | sl0 => exact .vcons .sl0 .vnil
  | fl a b c d e f g h i => exact .vcons (.fl a b c d e f g h i) .vnil
  | fl0 => exact .vcons .fl0 .vnil
  | eptr a b c d e f => exact .vcons (.eptr a b c d e f) .vnil
  | fn a b => exact .vcons (.fn a b) .vnil
theorem R.cells_flat {G : Gh} {v : Value} {h : HV} (r : R G (.val v h)) (ht : ∀ l, h ≠ .tup l) : ∀ c ∈ h.cells, c.flat = true := by
  cases r with
  | agg hf _ => exact hf
  | tup h => exact absurd rfl (ht _)
  | _ => intro c hc; simp [HV.cells] at hc; subst hc; rfl
theorem R.one {G : Gh} {v : Value} {h : HV} (r : R G (.val v h)) (hf : h.flat = true) : v.oneCell' = true := by
  cases r <;> first | rfl | (simp [HV.flat] at hf)
end HL
