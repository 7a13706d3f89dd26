/- Equality of states, as the model has it. -/
import Derived.Test.YtngligcjcdpnhaaRows
import Derived.Test.YtngligcjcdpnhaaK0
import Derived.Laws.StructEq
namespace Go.Proofs.Ytngligcjcdpnhaa
open Go.RowKit
set_option linter.unusedSimpArgs false
set_option linter.unusedVariables false

theorem arr_eq (d : Nat) (a b c e : Bool) (w : World) : (Op.equalIn (d + 2) 27 (.agg #[.bool a, .bool b]) (.agg #[.bool c, .bool e])).run Try.prog w = .ok ((a == c) && (b == e)) w := by
  cases a <;> cases b <;> cases c <;> cases e <;> kernel_rfl
theorem int_eq (d : Nat) (x y : Int) (w : World) : (Op.equalIn (d + 1) 3 (.int .i64 x) (.int .i64 y)).run Try.prog w = .ok (decide (x = y)) w := by kernel_rfl

theorem part_0 (k o y : Int) (a b : Bool) (w : World) : (part 3 #[.int .i64 k, .int .i64 o, .bool a, .bool b, .int .i64 y] 0).run Try.prog w = .ok (.int .i64 k) w := by kernel_rfl
theorem part_1 (k o y : Int) (a b : Bool) (w : World) : (part 3 #[.int .i64 k, .int .i64 o, .bool a, .bool b, .int .i64 y] 1).run Try.prog w = .ok (.int .i64 o) w := by kernel_rfl
theorem part_2 (k o y : Int) (a b : Bool) (w : World) : (part 27 #[.int .i64 k, .int .i64 o, .bool a, .bool b, .int .i64 y] 2).run Try.prog w = .ok (.agg #[.bool a, .bool b]) w := by kernel_rfl
theorem part_4 (k o y : Int) (a b : Bool) (w : World) : (part 3 #[.int .i64 k, .int .i64 o, .bool a, .bool b, .int .i64 y] 4).run Try.prog w = .ok (.int .i64 y) w := by kernel_rfl

def eqS (k o : Int) (a b : Bool) (y : Int) (k' o' : Int) (a' b' : Bool) (y' : Int) : Bool := decide (k = k') && (decide (o = o') && (((a == a') && (b == b')) && decide (y = y')))

theorem st_eq (k o y k' o' y' : Int) (a b a' b' : Bool) (w : World) :
    (binOp .eql 32 (.agg #[.int .i64 k, .int .i64 o, .bool a, .bool b, .int .i64 y]) (.agg #[.int .i64 k', .int .i64 o', .bool a', .bool b', .int .i64 y'])).run Try.prog w = .ok (.bool (eqS k o a b y k' o' a' b' y')) w := by
  have h : ∀ d : Nat, (Op.equalIn (d + 3) 32 (.agg #[.int .i64 k, .int .i64 o, .bool a, .bool b, .int .i64 y]) (.agg #[.int .i64 k', .int .i64 o', .bool a', .bool b', .int .i64 y'])).run Try.prog w =
      .ok (eqS k o a b y k' o' a' b' y') w := fun d => by
    rw [run_equalIn_struct w (d + 2) 32 _ _ (by rw [Program.fieldsOf, Try.underlying32]) (by kernel_rfl)]
    rw [Program.fieldsOf, Try.underlying32]
    unfold eqS
    have i1 := fun x y w => int_eq (d + 1) x y w
    have i2 := fun a b c e w => arr_eq d a b c e w
    by_cases h1 : k = k' <;> by_cases h2 : o = o' <;> by_cases h3 : y = y' <;> cases a <;> cases b <;> cases a' <;> cases b' <;> simp [Op.eqFields, part_0, part_1, part_2, part_4, i1, i2, h1, h2, h3]
  simp only [binOp]
  simp [Op.equal, Op.maxDepth, h 9997]
end Go.Proofs.Ytngligcjcdpnhaa
