/-
  The plain operations, worked out on what is known of the frame.
-/
import Derived.Test.YtfkklicpnoeclaaSl7
namespace Go.SL
open Go Go.RowKit

def vint : BinOp → Int → Int → Option Value
  | .lss, a, b => some (.bool (decide (a < b)))
  | .leq, a, b => some (.bool (decide (a ≤ b)))
  | .gtr, a, b => some (.bool (decide (b < a)))
  | .geq, a, b => some (.bool (decide (b ≤ a)))
  | .eql, a, b => some (.bool (decide (a = b)))
  | .neq, a, b => some (.bool (decide (a ≠ b)))
  | _, _, _ => none

def vstr : BinOp → ByteArray → ByteArray → Option Value
  | .eql, a, b => some (.bool (decide (a = b)))
  | .neq, a, b => some (.bool (decide (a ≠ b)))
  | _, _, _ => none

def vbin (o : BinOp) : Value → Value → Option Value
  | .int k a, .int k' b => match decide (k = k') with
    | true => vint o a b
    | false => none
  | .string a, .string b => vstr o a b
  | _, _ => none

/-- What a plain operation yields, where the frame tells. -/
def vop (s : Slots) : Op → Option Value
  | .move x => ev s x
  | .assign x => ev s x
  | .pick c a b => match ev s c with
    | some (.bool true) => ev s a
    | some (.bool false) => ev s b
    | _ => none
  | .unOp .not _ x => match ev s x with
    | some (.bool b) => some (.bool (!b))
    | _ => none
  | .binOp o _ x y _ => match ev s x, ev s y with
    | some u, some v => vbin o u v
    | _, _ => none
  | .extract x i => match ev s x with
    | some (.tuple vs) => vs.toList[i]?
    | _ => none
  | _ => none

theorem vop_ok {P : Program} {w0 : World} {s : Slots} {H : List Blk} {op : Op} {ty : TypeId} {v : Value} (h : vop s op = some v) : VOp P w0 s H op ty v := by
  cases op <;> simp only [vop] at h <;> try (cases h; done)
  case move x => exact v_move h
  case assign x => exact v_assign h
  case pick c a b =>
    split at h
    · exact v_pick_t (by assumption) h
    · exact v_pick_f (by assumption) h
    · cases h
  case binOp o t x y t' =>
    split at h
    · rename_i u v' hu hv
      unfold vbin at h
      split at h
      · rename_i k a k' b
        split at h
        · rename_i hk
          have hk := of_decide_eq_true hk
          subst hk
          cases o <;> simp only [vint] at h <;> first | (cases h; done) | skip
          all_goals (injection h with h; subst h)
          · exact v_eql hu hv
          · exact v_neq hu hv
          · exact v_lss hu hv
          · exact v_leq hu hv
          · exact v_gtr hu hv
          · exact v_geq hu hv
        · cases h
      · rename_i a b
        cases o <;> simp only [vstr] at h <;> first | (cases h; done) | skip
        all_goals (injection h with h; subst h)
        · exact v_eqls hu hv
        · exact v_neqs hu hv
      · cases h
    · cases h
  case unOp o t x =>
    cases o <;> simp only at h <;> first | (cases h; done) | skip
    split at h
    · injection h with h
      subst h
      exact v_not (by assumption)
    · cases h
  case extract x i =>
    split at h
    · rename_i vs hx
      exact v_extract (vs := vs.toList) (by simpa using hx) h
    · cases h
end Go.SL
