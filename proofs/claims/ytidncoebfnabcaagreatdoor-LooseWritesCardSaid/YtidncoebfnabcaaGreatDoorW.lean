/- A witness of the row, and the row, from the pure law. -/
import Derived.Test.YtidncoebfnabcaaGreatDoorR
set_option linter.unusedVariables false
set_option linter.unusedSimpArgs false
namespace Go.Proofs.YtidncoebfnabcaaGreatDoor
open Go.ChangeShapes Go.WideShapes Go.RowKit Go.AM

def dc0 : DataW Unit → List Value
  | .lit (.int k n) => [.int k n]
  | _ => []
def dc1 : DataW Unit → List Value
  | .agg l => l.flatMap dc0
  | d => dc0 d
/-- The cells of plain data. -/
def dataCells : DataW Unit → List Value
  | .agg l => l.flatMap dc1
  | d => dc0 d

noncomputable def errText : DataW Unit → ByteArray
  | .iface _ (.ptr (.agg [.lit (.string s)])) => ⟨s.toArray⟩
  | _ => ⟨#[]⟩

noncomputable def lowB : Nat := (World.settled Tryz.prog default).heap.size

noncomputable def setG (h : Array Obj) (g : Nat) (cs : List Value) : Array Obj := h.modify g fun
  | .cells _ t frozen => .cells cs.toArray t frozen
  | o => o

/-- A world in which the listed variables read as they are listed. -/
noncomputable def laidWorld (os : Os) : World :=
  let w0 := World.holding Tryz.prog os ⟨#[.cells #[.string (errText Rows.laid_strconv_ErrSyntax)] 230, .cells #[.string (errText Rows.laid_strconv_ErrRange)] 230], #[], []⟩
  { w0 with heap := setG (setG (setG (setG (setG (setG (setG w0.heap 1 (dataCells Rows.laid_internal_strconv_uint64pow10)) 2 (dataCells Rows.laid_unicode_utf8_first)) 3 (dataCells Rows.laid_unicode_utf8_acceptRanges)) 6 (dataCells Rows.laid_math_bits_deBruijn32tab)) 7 (dataCells Rows.laid_math_bits_deBruijn64tab))
      4 [.iface 228 (.pointer (some ⟨lowB, 0, none⟩))]) 5 [.iface 228 (.pointer (some ⟨lowB + 1, 0, none⟩))] }

theorem laidWorld_met (os : Os) (args : Array Value) : laidMetH Tryz.prog Rows.looseWritesRow.laid ((laidWorld os).forCall (fun _ _ => 0) ⟨#[], args, []⟩).memory :=
  laidMet_of_run' 8 (by kernel_rfl) (by kernel_rfl)

theorem wit (os : Os) (H : Type) (enc : TypeId × Value → H) : ∃ (w : World) (tape : Tape) (i : Input), w.os = os ∧ (w.forCall tape i).Shaped Tryz.checked.prog ∧ i.vars = [] ∧ Input.okWide Tryz.checked.prog (w.forCall tape i) .any w.heap.size 3 i ∧
      ((Rows.looseWritesSpec.pre enc Tryz.checked.prog Tryz.f3 [] false (w.forCall tape i).memory i.args ∧ laidMetH Tryz.prog Rows.looseWritesRow.laid (w.forCall tape i).memory) ∧ sizedMet enc Tryz.checked.prog Tryz.f3 (OpenSpec.ofChange Rows.looseWritesSpec) false (w.forCall tape i).memory i.args) ∧ ({} : Assume).holds Tryz.checked.prog (lone (Frame.enter Tryz.checked.prog 3 i.args .normal) [] (w.forCall tape i)) :=
  ChangeSpec.witness_at (enc := enc) (C := Tryz.checked) (os := os) (X := fun w _ => laidMetH Tryz.prog Rows.looseWritesRow.laid w) false (laidWorld os) #[.agg #[.int .i64 0, .string ⟨#[]⟩], .slice none 0 0] 8 rfl (by kernel_rfl) (by kernel_rfl) (by kernel_rfl) (by kernel_rfl) (by kernel_rfl) (laidWorld_met os _)

theorem looseWrites_holds (hpure : PureLaw) : Rows.LooseWritesSaid :=
  OpenClaim.holds_of_wide 3 Tryz.f3 rfl rfl rfl rfl rfl rfl rfl ⟨rfl, rfl, rfl, rfl, rfl⟩ rfl rfl rfl rfl rfl (by kernel_rfl) Tryz.func3 (by kernel_rfl)
    (of_decide_eq_true (by kernel_rfl)) (by unfold Func.isWrapper; rw [if_neg (of_decide_eq_false (by kernel_rfl))]; exact ⟨rfl, rfl⟩)
    (fun os started H enc _ => law_lifted hpure os started H enc (wit os H enc))
end Go.Proofs.YtidncoebfnabcaaGreatDoor
