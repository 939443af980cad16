/- HL: the tactic that goes through code. -/
import Derived.Test.YtoojgahbfpdhgaaHLStep
set_option linter.unusedSimpArgs false
set_option linter.unusedVariables false
set_option linter.unusedSectionVars false
namespace HL
open Go

theorem getElem?_map_some {α β : Type} {l : List α} {i : Nat} {x : α} (f : α → β) (h : l[i]? = some x) : (l.map f)[i]? = some (f x) := by simp [h]

theorem ex_some {α : Type} {o : Option α} {P : α → Prop} : (∃ y, o = some y ∧ P y) = (match o with | some y => P y | none => False) := by
  cases o <;> simp

theorem zfz_agg (l : List HV) : zfz true (.agg l) = .agg (l.map zf1) := rfl
theorem zfz_int (k i) : zfz true (.int k i) = .int k i := rfl
theorem zfz_str (s) : zfz true (.str s) = .str s := rfl
theorem zfz_bool (s) : zfz true (.bool s) = .bool s := rfl
theorem zfz_nils : zfz true .nils = .sl [] := rfl
theorem zfz_f (z) : zfz false z = z := rfl
theorem zf1_nils : zf1 .nils = .sl [] := rfl
theorem zf1_int (k i) : zf1 (.int k i) = .int k i := rfl
theorem zf1_str (s) : zf1 (.str s) = .str s := rfl
theorem zf1_bool (s) : zf1 (.bool s) = .bool s := rfl
theorem zf1_sl (s) : zf1 (.sl s) = .sl s := rfl
theorem cells_agg (l : List HV) : (HV.agg l).cells = l := rfl
theorem cells_int (k : IntKind) (i : Int) : (HV.int k i).cells = [.int k i] := rfl
theorem cells_str (s : ByteArray) : (HV.str s).cells = [.str s] := rfl
theorem cells_bool (b : Bool) : (HV.bool b).cells = [.bool b] := rfl
theorem cells_sl (l : List HV) : (HV.sl l).cells = [.sl l] := rfl
theorem cells_own (i n : Nat) : (HV.own i n).cells = [.own i n] := rfl
theorem cells_otl (i n k : Nat) : (HV.otl i n k).cells = [.otl i n k] := rfl
theorem cells_nils : HV.nils.cells = [.nils] := rfl
theorem cells_nilp : HV.nilp.cells = [.nilp] := rfl
theorem cells_nilf : HV.nilf.cells = [.nilf] := rfl
theorem cells_fn (f a b) : (HV.fn f a b).cells = [.fn f a b] := rfl
theorem cells_ptr (a b c d) : (HV.ptr a b c d).cells = [.ptr a b c d] := rfl
theorem cells_eptr (a b c d) : (HV.eptr a b c d).cells = [.eptr a b c d] := rfl
theorem cells_tup (a) : (HV.tup a).cells = [.tup a] := rfl

theorem ld_agg (off n : Nat) (cs : List HV) : ld true off n (.agg cs) = if off = 0 ∧ cs.length = n then some (.agg cs) else if off + n ≤ cs.length then some (.agg ((cs.drop off).take n)) else none := by
  by_cases h : off = 0 ∧ cs.length = n
  · rw [if_pos h]; simp [ld, HV.isAgg, HV.cells, h.1, h.2]
  · rw [if_neg h]; simp only [ld, HV.isAgg, HV.cells, if_true, true_and]; rw [if_neg h]; rfl
theorem ld_one (off n : Nat) (x : HV) : ld false off n x = x.cells[off]? := by simp [ld]

theorem cn1_nils (st : St) : cn1 st .nils = (.sl [], st) := rfl
theorem cn1_own (st : St) (id n : Nat) : cn1 st (.own id n) = match st[id]? with
    | some (.arr sz l _) => if l.length = n then (.sl l, st.set id (.arr sz l false)) else (.own id n, st)
    | _ => (.own id n, st) := rfl
theorem cn1_otl (st : St) (i n k : Nat) : cn1 st (.otl i n k) = (.otl i n k, st) := rfl
theorem cn1_int (st : St) (k : IntKind) (i : Int) : cn1 st (.int k i) = (.int k i, st) := rfl
theorem cn1_str (st : St) (s) : cn1 st (.str s) = (.str s, st) := rfl
theorem cn1_bool (st : St) (s) : cn1 st (.bool s) = (.bool s, st) := rfl
theorem cn1_sl (st : St) (s) : cn1 st (.sl s) = (.sl s, st) := rfl
theorem cn1_agg (st : St) (s) : cn1 st (.agg s) = (.agg s, st) := rfl
theorem cn1_nilp (st : St) : cn1 st .nilp = (.nilp, st) := rfl
theorem cn1_nilf (st : St) : cn1 st .nilf = (.nilf, st) := rfl
theorem cn1_fn (st : St) (a b c) : cn1 st (.fn a b c) = (.fn a b c, st) := rfl
theorem cn1_ptr (st : St) (a b c d) : cn1 st (.ptr a b c d) = (.ptr a b c d, st) := rfl
theorem cn1_eptr (st : St) (a b c d) : cn1 st (.eptr a b c d) = (.eptr a b c d, st) := rfl
theorem cn1_tup (st : St) (s) : cn1 st (.tup s) = (.tup s, st) := rfl

theorem cnA_f (st : St) (h : HV) : cnA false st h = (h, st) := rfl
theorem cnA_agg (st : St) (cs : List HV) : cnA true st (.agg cs) = (.agg (cnL st cs).1, (cnL st cs).2) := rfl
theorem cnA_nils (st : St) : cnA true st .nils = (.sl [], st) := rfl
theorem cnA_own (st : St) (id n : Nat) : cnA true st (.own id n) = match st[id]? with
    | some (.arr sz l _) => if l.length = n then (.sl l, st.set id (.arr sz l false)) else (.own id n, st)
    | _ => (.own id n, st) := rfl
theorem cnA_otl (st : St) (i n k : Nat) : cnA true st (.otl i n k) = (.otl i n k, st) := rfl
theorem cnA_int (st : St) (k : IntKind) (i : Int) : cnA true st (.int k i) = (.int k i, st) := rfl
theorem cnA_str (st : St) (s) : cnA true st (.str s) = (.str s, st) := rfl
theorem cnA_bool (st : St) (s) : cnA true st (.bool s) = (.bool s, st) := rfl
theorem cnA_sl (st : St) (s) : cnA true st (.sl s) = (.sl s, st) := rfl
theorem cnA_nilp (st : St) : cnA true st .nilp = (.nilp, st) := rfl
theorem cnA_nilf (st : St) : cnA true st .nilf = (.nilf, st) := rfl
theorem cnA_fn (st : St) (a b c) : cnA true st (.fn a b c) = (.fn a b c, st) := rfl
theorem cnA_ptr (st : St) (a b c d) : cnA true st (.ptr a b c d) = (.ptr a b c d, st) := rfl
theorem cnA_eptr (st : St) (a b c d) : cnA true st (.eptr a b c d) = (.eptr a b c d, st) := rfl
theorem cnA_tup (st : St) (s) : cnA true st (.tup s) = (.tup s, st) := rfl

theorem cnR_tup (st : St) (l : List HV) : cnR st (.tup l) = (.tup (cnT st l).1, (cnT st l).2) := rfl
theorem cnR_agg (st : St) (cs : List HV) : cnR st (.agg cs) = (.agg (cnL st cs).1, (cnL st cs).2) := rfl
theorem cnR_nils (st : St) : cnR st .nils = (.sl [], st) := rfl
theorem cnR_own (st : St) (id n : Nat) : cnR st (.own id n) = match st[id]? with
    | some (.arr sz l _) => if l.length = n then (.sl l, st.set id (.arr sz l false)) else (.own id n, st)
    | _ => (.own id n, st) := rfl
theorem cnR_int (st : St) (k : IntKind) (i : Int) : cnR st (.int k i) = (.int k i, st) := rfl
theorem cnR_str (st : St) (s) : cnR st (.str s) = (.str s, st) := rfl
theorem cnR_bool (st : St) (s) : cnR st (.bool s) = (.bool s, st) := rfl
theorem cnR_sl (st : St) (s) : cnR st (.sl s) = (.sl s, st) := rfl

theorem ownq_int (k i) : own? (HV.int k i) = false := rfl
theorem tupq_int (k i) : tup? (HV.int k i) = false := rfl
theorem ownq_str (s) : own? (HV.str s) = false := rfl
theorem tupq_str (s) : tup? (HV.str s) = false := rfl
theorem ownq_bool (b) : own? (HV.bool b) = false := rfl
theorem tupq_bool (b) : tup? (HV.bool b) = false := rfl
theorem ownq_sl (l) : own? (HV.sl l) = false := rfl
theorem tupq_sl (l) : tup? (HV.sl l) = false := rfl
theorem ownq_agg (l) : own? (HV.agg l) = false := rfl
theorem tupq_agg (l) : tup? (HV.agg l) = false := rfl
theorem ownq_nils  : own? HV.nils = false := rfl
theorem tupq_nils  : tup? HV.nils = false := rfl
theorem ownq_nilp  : own? HV.nilp = false := rfl
theorem tupq_nilp  : tup? HV.nilp = false := rfl
theorem ownq_nilf  : own? HV.nilf = false := rfl
theorem tupq_nilf  : tup? HV.nilf = false := rfl
theorem ownq_fn (f a b) : own? (HV.fn f a b) = false := rfl
theorem tupq_fn (f a b) : tup? (HV.fn f a b) = false := rfl
theorem ownq_ptr (a b c d) : own? (HV.ptr a b c d) = false := rfl
theorem tupq_ptr (a b c d) : tup? (HV.ptr a b c d) = false := rfl
theorem ownq_eptr (a b c d) : own? (HV.eptr a b c d) = false := rfl
theorem tupq_eptr (a b c d) : tup? (HV.eptr a b c d) = false := rfl
theorem ownq_otl (a b c) : own? (HV.otl a b c) = false := rfl
theorem tupq_otl (a b c) : tup? (HV.otl a b c) = false := rfl
theorem ownq_tup (l) : own? (HV.tup l) = false := rfl
theorem ownq_own (a b) : own? (HV.own a b) = true := rfl
theorem tupq_own (a b) : tup? (HV.own a b) = false := rfl
theorem tupq_tup (a) : tup? (HV.tup a) = true := rfl
theorem calm_agg (l) : calm (.agg l) = l.all (fun c => !own? c) := rfl

def ScStL (n : Nat) : St → Prop
  | [] => True
  | o :: r => ScdO n o ∧ ScStL n r
theorem ScStL_iff {n : Nat} : ∀ {l : St}, ScStL n l ↔ ∀ o ∈ l, ScdO n o
  | [] => by simp [ScStL]
  | x :: l => by simp [ScStL, ScStL_iff (l := l)]
theorem ScSt_eq (st : St) : ScSt st = ScStL st.length st := propext ScStL_iff.symm

/-- A slice that is filled from its beginning on. -/
theorem fill_get {xs : List HV} {n i : Nat} {z : HV} (hn : n = xs.length) (hi : i < n) : (xs.take i ++ List.replicate (n - i) z)[i]? = some z := by
  rw [List.getElem?_append_right (by simp; omega)]
  simp only [List.length_take, show min i xs.length = i by omega, Nat.sub_self, List.getElem?_replicate]
  rw [if_pos (by omega)]
theorem fill_set {xs : List HV} {n i : Nat} {x z : HV} (hn : n = xs.length) (hx : xs[i]? = some x) : (xs.take i ++ List.replicate (n - i) z).set i x = xs.take (i + 1) ++ List.replicate (n - (i + 1)) z := by
  have hi := get_lt hx
  rw [List.set_append_right _ _ (by simp; omega)]
  simp only [List.length_take, show min i xs.length = i by omega, Nat.sub_self]
  rw [show n - i = (n - (i + 1)) + 1 by omega, List.replicate_succ, List.set_cons_zero, List.take_add_one, hx]
  simp
theorem fill_len {xs : List HV} {n i : Nat} {z : HV} (hn : n = xs.length) (hi : i ≤ n) : (xs.take i ++ List.replicate (n - i) z).length = n := by
  simp; omega

theorem and_ex {p q : Prop} (h : p) : (p ∧ q) = q := by simp [h]

end HL
