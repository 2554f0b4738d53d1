/- strings.SplitSeq, snap.Clean, slices.Clone walked; the types of the program; the contracts of the library. -/
import Derived.RangeFuncNested
import Derived.RangeFuncBound
import Derived.RangeFuncCalls
import Derived.RangeFuncLeaves
import Derived.RangeFuncFrom
import Derived.Shelf.Abstract
import Derived.Shelf.RegionOpen
import Derived.WalkKit
import Derived.OwnWalkIn
import Derived.TacticsInMore
import Derived.LoopNIn
import Derived.LoopIn
import Derived.Test.YtidncoebfnabcaaGreatDoorS
import Derived.RangeFuncBox
import Derived.Test.YtidncoebfnabcaaGreatDoorE2
import Derived.Test.YtidncoebfnabcaaGreatDoorProg
import Derived.KernelRfl
import Derived.WalkLawsBesides
import Derived.Lib.LazyBuf
import Derived.Lib.SmallJoins
set_option linter.unusedVariables false
set_option linter.unusedSimpArgs false
namespace Go.Proofs
open Go.RowKit Go.Shelf
attribute [local go_sem] Oper.semAt_some

/-- A text cut at each byte c. -/
def splitB (c : UInt8) : List UInt8 → List (List UInt8)
  | [] => [[]]
  | b :: r => if b = c then [] :: splitB c r else match splitB c r with
    | p :: ps => (b :: p) :: ps
    | [] => [[b]]

theorem splitB_ne (c : UInt8) : ∀ s, splitB c s ≠ []
  | [] => by simp [splitB]
  | b :: r => by
    simp only [splitB]
    split
    · simp
    · split <;> simp

theorem indexByte_split (c : UInt8) : ∀ s : List UInt8, (Lib.indexByte s c < 0 ∧ splitB c s = [s]) ∨
    ∃ i : Nat, i < s.length ∧ Lib.indexByte s c = (i : Int) ∧ splitB c s = s.take i :: splitB c (s.drop (i + 1))
  | [] => .inl (by simp [Lib.indexByte, splitB])
  | b :: r => by
    by_cases h : b = c
    · subst h
      exact .inr ⟨0, by simp, by simp [Lib.indexByte], by simp [splitB]⟩
    · rcases indexByte_split c r with ⟨h1, h2⟩ | ⟨i, h1, h2, h3⟩
      · refine .inl ⟨?_, ?_⟩
        · simp only [Lib.indexByte, beq_iff_eq, h, if_false]
          split <;> omega
        · simp [splitB, h, h2]
      · refine .inr ⟨i + 1, by simp; omega, ?_, ?_⟩
        · simp only [Lib.indexByte, beq_iff_eq, h, if_false]
          rw [h2]
          split <;> omega
        · simp [splitB, h, h3]
end Go.Proofs
namespace Go.Proofs
open Go.RowKit Go.Shelf
attribute [local go_sem] Oper.semAt_some

open Classical in
/-- How long is the text in a box? -/
noncomputable def leftIn (B : Nat) (W : World) : Nat := match W.cell? ⟨B, 0, none⟩ with
  | some (.string s) => s.size
  | _ => 0

theorem leftIn_eq {B : Nat} {W : World} {s : ByteArray} (h : W.cell? ⟨B, 0, none⟩ = some (.string s)) : leftIn B W = s.size := by
  unfold leftIn; rw [h]

/-- What the rounds must leave: the iterator's three boxes. -/
def Boxes3 (A B C : Nat) (W W' : World) : Prop := ∀ b, b = A ∨ b = B ∨ b = C → W'.heap[b]? = W.heap[b]?

theorem setBox_same {W : World} {B : Nat} {v v0 : Value} {t : TypeId} (h : W.heap[B]? = some (.cells #[v0] t)) : (W.setCell ⟨B, 0, none⟩ v).heap[B]? = some (.cells #[v] t) := by
  simp [World.setCell, Array.getElem?_modify, h]
theorem setBox_other {W : World} {B k : Nat} {v : Value} (hk : k ≠ B) : (W.setCell ⟨B, 0, none⟩ v).heap[k]? = W.heap[k]? := by
  simp [World.setCell, Array.getElem?_modify, Ne.symm hk]

theorem extract_l (s : List UInt8) (l h : Nat) : (⟨s.toArray⟩ : ByteArray).extract l h = ⟨((s.take h).drop l).toArray⟩ := by
  apply ByteArray.ext
  simp [ByteArray.data_extract, List.extract, List.drop_take]

set_option maxRecDepth 100000 in
set_option maxHeartbeats 4000000 in
/-- strings.SplitSeq's iterator at a text and one byte, over whatever body. -/
theorem split_in (n : Nat) (hn : 3 ≤ n) (l A B C : Nat) (hAB : A ≠ B) (hCB : C ≠ B) (s : List UInt8) (hs : s.length < 4611686018427387904) (c : UInt8) (J Jx : List (List UInt8) → World → Prop)
    (hJ : ∀ pre W W' row, J pre W → W.grownBy W' row → (∀ r, row = some r → r = B) → J pre W')
    (hY : ∀ pre x W, J pre W → YieldAt Fence.wide (n - 1) Tryz.prog l #[.string ⟨x.toArray⟩] W fun e W' =>
      (e = .returned (.bool true) ∧ J (pre ++ [x]) W' ∧ Boxes3 A B C W W') ∨ (e = .returned (.bool false) ∧ Jx (pre ++ [x]) W'))
    (W : World) (hA : W.heap[A]? = some (.cells #[.string ⟨#[c]⟩] 9)) (hB : W.heap[B]? = some (.cells #[.string ⟨s.toArray⟩] 9)) (hC : W.heap[C]? = some (.cells #[.int .i64 0] 3)) (h0 : J [] W) :
    CallsIn Fence.wide n Tryz.prog 133 #[.func (.yield l) #[] #[], .pointer (some ⟨A, 0, none⟩), .pointer (some ⟨B, 0, none⟩), .pointer (some ⟨C, 0, none⟩)] W fun e W' => (∃ v, e = .returned v) ∧
      ((J (splitB c s) W') ∨ (∃ pre, pre <+: splitB c s ∧ Jx pre W')) := by
  refine callsIn_of_wp Tryz.func133 rfl trivial ?_ rfl
  simp only [Tryz.ntmps133, List.size_toArray, List.length_cons, List.length_nil, Nat.reduceAdd, Nat.reduceSub, Array.replicate_succ, Array.replicate_zero, List.push_toArray, List.append_toArray, List.nil_append, List.cons_append]
  have h1 : 1 ≤ n := by omega
  have hAc : W.cell? ⟨A, 0, none⟩ = some (.string ⟨#[c]⟩) := by simp [World.cell?, hA]
  have hBc : W.cell? ⟨B, 0, none⟩ = some (.string ⟨s.toArray⟩) := by simp [World.cell?, hB]
  gi_wp2
  gi_loopw [7] (fun _ wr => ∃ (pre : List (List UInt8)) (s' : List UInt8), s'.length < 4611686018427387904 ∧ splitB c s = pre ++ splitB c s' ∧ J pre wr ∧ wr.heap[A]? = some (.cells #[.string ⟨#[c]⟩] 9) ∧ wr.heap[B]? = some (.cells #[.string ⟨s'.toArray⟩] 9) ∧ wr.heap[C]? = some (.cells #[.int .i64 0] 3))
    (fun _ wr => leftIn B wr)
  case atStart => exact ⟨[], s, hs, by simp, h0, hA, hB, hC⟩
  case round =>
    obtain ⟨pre, s', hsl, hx, hJs, hA', hB', hC'⟩ := hrel
    have hAc' : wr.cell? ⟨A, 0, none⟩ = some (.string ⟨#[c]⟩) := by simp [World.cell?, hA']
    have hBc' : wr.cell? ⟨B, 0, none⟩ = some (.string ⟨s'.toArray⟩) := by simp [World.cell?, hB']
    have hCc' : wr.cell? ⟨C, 0, none⟩ = some (.int .i64 0) := by simp [World.cell?, hC']
    rcases indexByte_split c s' with ⟨hi, hs'⟩ | ⟨i, hi, hs', hs2⟩
    · obtain ⟨fn, tmps, assign, body, hy, hR⟩ := hY pre s' wr hJs
      gi_wp2_with (refine ⟨trivial, ?_⟩; gi_at_call 135; refine (callsIn_wide.2 (Tryz.strings_Index_one _ _ _)).mono ?_; rintro e w' ⟨rfl, rfl⟩)
      refine hR.mono ?_
      rintro e W3 (⟨rfl, hJ3, hk3⟩ | ⟨rfl, hJx3⟩)
      · gi_wp2
        go_end0
        refine ⟨⟨_, rfl⟩, .inl ?_⟩
        rw [hx, hs']; exact hJ3
      · gi_wp2
        go_end0
        exact ⟨⟨_, rfl⟩, .inr ⟨pre ++ [s'], by rw [hx, hs']; exact ⟨[], by simp⟩, hJx3⟩⟩
    · obtain ⟨fn, tmps, assign, body, hy, hR⟩ := hY pre (s'.take i) wr hJs
      have hw : wrap64 (i : Int) = i := by unfold wrap64; omega
      have hw1 : wrap64 ((i : Int) + 1) = ((i + 1 : Nat) : Int) := by unfold wrap64; omega
      have hil : (i : Int) ≤ (s'.length : Int) := by omega
      have hil1 : ((i + 1 : Nat) : Int) ≤ (s'.length : Int) := by omega
      have hex : (⟨s'.toArray⟩ : ByteArray).extract 0 i = ⟨(s'.take i).toArray⟩ := by rw [extract_l]; simp
      have hex1 : (⟨s'.toArray⟩ : ByteArray).extract (i + 1) s'.length = ⟨(s'.drop (i + 1)).toArray⟩ := by rw [extract_l]; simp
      gi_wp2_with (refine ⟨trivial, ?_⟩; gi_at_call 135; refine (callsIn_wide.2 (Tryz.strings_Index_one _ _ _)).mono ?_; rintro e w' ⟨rfl, rfl⟩)
      refine hR.mono ?_
      rintro e W3 (⟨rfl, hJ3, hk3⟩ | ⟨rfl, hJx3⟩)
      · have gA : W3.heap[A]? = some (.cells #[.string ⟨#[c]⟩] 9) := (hk3 A (.inl rfl)).trans hA'
        have gB : W3.heap[B]? = some (.cells #[.string ⟨s'.toArray⟩] 9) := (hk3 B (.inr (.inl rfl))).trans hB'
        have gC : W3.heap[C]? = some (.cells #[.int .i64 0] 3) := (hk3 C (.inr (.inr rfl))).trans hC'
        have cA : W3.cell? ⟨A, 0, none⟩ = some (.string ⟨#[c]⟩) := by simp [World.cell?, gA]
        have cB : W3.cell? ⟨B, 0, none⟩ = some (.string ⟨s'.toArray⟩) := by simp [World.cell?, gB]
        have cC : W3.cell? ⟨C, 0, none⟩ = some (.int .i64 0) := by simp [World.cell?, gC]
        have fB : W3.frozen? ⟨B, 0, none⟩ = false := by simp [World.frozen?, gB]
        gi_wp2
        have gB2 := setBox_same (v := .string ⟨(s'.drop (i + 1)).toArray⟩) gB
        refine ⟨⟨pre ++ [s'.take i], s'.drop (i + 1), by simp; omega, by rw [hx, hs2]; simp, ?_, ?_, gB2, ?_⟩, ?_⟩
        · exact hJ _ _ _ (some B) hJ3 (grownBy_setCell' _ _ _) (fun r e => by cases e; rfl)
        · rw [setBox_other hAB]; exact gA
        · rw [setBox_other hCB]; exact gC
        · rw [leftIn_eq (s := ⟨(s'.drop (i + 1)).toArray⟩) (by simp [World.cell?, gB2]), leftIn_eq hBc']
          simp [ByteArray.size]; omega
      · gi_wp2
        refine bodyPost_ret (results_none rfl _ _ _) rfl ?_
        exact ⟨⟨_, rfl⟩, .inr ⟨pre ++ [s'.take i], by rw [hx, hs2]; exact ⟨splitB c (s'.drop (i + 1)), by simp⟩, hJx3⟩⟩
end Go.Proofs
namespace Go.Proofs
open Go.RowKit Go.Shelf

def ownPost3 (A B C : Nat) (I : List (List UInt8) → World → Prop) (Ix : Code → List (List UInt8) → World → Prop) (xs : List (List UInt8)) (W : World) : Exit → Act → World → Prop
  | .normal, _, W' => KeepsOthers W W' ∧ I xs W' ∧ Boxes3 A B C W W'
  | .ret, _, W' => KeepsOthers W W' ∧ Ix .ret xs W'
  | .exit id, _, W' => KeepsOthers W W' ∧ Ix (.exit id) xs W'
  | .goto t, _, W' => KeepsOthers W W' ∧ Ix (.goto t) xs W'
  | .panic _, _, _ => False
  | .outgrown, _, _ => False

theorem wpIn_split {g : Operand} {ps : Array Tmp} {assign body : Code} {Q : Exit → Act → World → Prop} {a : Act} {w : World} (n : Nat) (hn : 6 ≤ n) (A B C : Nat)
    (hg : a.eval g = .func (.func 133) #[] #[.pointer (some ⟨A, 0, none⟩), .pointer (some ⟨B, 0, none⟩), .pointer (some ⟨C, 0, none⟩)]) (eg : ∀ args w, (callFunc 133 args).run Tryz.prog w = .ok (.enter 133 args) w)
    (hAB : A ≠ B) (hCB : C ≠ B) (s : List UInt8) (hs : s.length < 4611686018427387904) (c : UInt8) (hps : ps.size = 1)
    (hA : w.heap[A]? = some (.cells #[.string ⟨#[c]⟩] 9)) (hB : w.heap[B]? = some (.cells #[.string ⟨s.toArray⟩] 9)) (hC : w.heap[C]? = some (.cells #[.int .i64 0] 3))
    (I : List (List UInt8) → World → Prop) (Ix : Code → List (List UInt8) → World → Prop)
    (hI : ∀ pre W W' row, I pre W → W.grownBy W' row → (∀ r, row = some r → r = B ∨ (w.heap.size ≤ r ∧ ∃ o : Obj, W.heap[r]? = some o ∧ o.isCells = false)) → I pre W')
    (hIx : ∀ c pre W W' row, Ix c pre W → W.grownBy W' row → (∀ r, row = some r → w.heap.size ≤ r ∧ ∃ o : Obj, W.heap[r]? = some o ∧ o.isCells = false) → Ix c pre W') (h0 : I [] w) (a₁ : List UInt8 → Act)
    (hassign : ∀ (l : Nat) (x : List UInt8) (W : World) (K : Act → World → Prop), K (a₁ x) W →
      assign.wpIn (Fence.wide.inRound l) (n - 1 - 1) Tryz.prog (Exit.then K (fun _ _ _ => False)) { tmps := (ps.zip #[Value.string ⟨x.toArray⟩]).foldl (fun t (p, v) => t.setIfInBounds p v) a.tmps, defers := [] } W)
    (hbody : ∀ (l : Nat) (pre : List (List UInt8)) (x : List UInt8) (W : World), I pre W → body.wpIn (Fence.wide.inRound l) (n - 1 - 1) Tryz.prog (ownPost3 A B C I Ix (pre ++ [x]) W) (a₁ x) W)
    (hdone : ∀ (D : Nat) (W : World), I (splitB c s) W → W.heap[D]? = some (.deferred (some [])) → w.heap.size ≤ D → Q .normal { a with defers := { target := .collected D, args := #[] } :: a.defers } W)
    (hstop : ∀ (D : Nat) (cc : Code) (pre : List (List UInt8)) (W : World), pre <+: splitB c s → Ix cc pre W → W.heap[D]? = some (.deferred (some [])) → w.heap.size ≤ D → cc.wpIn Fence.wide n Tryz.prog Q { a with defers := { target := .collected D, args := #[] } :: a.defers } W) :
    (Code.rangeFunc g ps assign body).wpIn Fence.wide n Tryz.prog Q a w := by
  have hAl : A < w.heap.size := (Array.getElem?_eq_some_iff.1 hA).1
  have hBl : B < w.heap.size := (Array.getElem?_eq_some_iff.1 hB).1
  have hCl : C < w.heap.size := (Array.getElem?_eq_some_iff.1 hC).1
  have h1 : 1 ≤ n := by omega
  refine wpIn_rangeFunc ?_
  intro fn hfn
  have hro : Fence.wide.round = none := rfl
  rw [hro]
  obtain ⟨rec, hrec⟩ : ∃ rec : LoopState → Option Code → Loop, rec = fun st pe => { state := st, pending := pe, fn, tmps := a.tmps, params := ps, assign, body, defers := w.heap.size } := ⟨_, rfl⟩
  obtain ⟨W1, hW1⟩ : ∃ W1, (w.alloc (.deferred (some []))).alloc (.loop (rec .ready none)) = W1 := ⟨_, rfl⟩
  have hL1 : W1.heap[w.heap.size + 1]? = some (.loop (rec .ready none)) := by
    rw [← hW1]; have := World.alloc_heap_new (w.alloc (.deferred (some []))) (.loop (rec .ready none)); rwa [World.size_alloc] at this
  have hK1 : W1.heap[w.heap.size]? = some (.deferred (some [])) := by
    rw [← hW1]; exact (Below.heap_alloc _ _ _ (by simp)).trans (World.alloc_heap_new w _)
  have hI1 : I [] W1 := by
    rw [← hW1]
    exact hI _ _ _ none (hI _ _ _ none h0 (World.grownBy_alloc w _ none) (fun r e => by cases e)) (World.grownBy_alloc _ _ none) (fun r e => by cases e)
  have old : ∀ k, k < w.heap.size → W1.heap[k]? = w.heap[k]? := fun k hk => by
    rw [← hW1]; exact (Below.heap_alloc _ _ _ (by simp; omega)).trans (Below.heap_alloc _ _ _ hk)
  refine ⟨w.heap.size + 1, [{ target := .collected w.heap.size, args := #[] }], W1, { target := .fn (.func 133) #[.pointer (some ⟨A, 0, none⟩), .pointer (some ⟨B, 0, none⟩), .pointer (some ⟨C, 0, none⟩)], args := #[.func (.yield (w.heap.size + 1)) #[] #[]] }, W1, 133,
    #[.func (.yield (w.heap.size + 1)) #[] #[]] ++ #[.pointer (some ⟨A, 0, none⟩), .pointer (some ⟨B, 0, none⟩), .pointer (some ⟨C, 0, none⟩)], W1, ?_, ?_, ?_, ?_, fun _ => h1, ?_⟩
  · rw [← hW1, hrec]; exact run_enterLoop_outer _ _ _ _ _
  · simp only [resolve, hg]
    simp [go_sem]
  · intro f' hf'; trivial
  · simp [invoke, go_sem, eg]
  · refine (split_in (n - 1) (by omega) (w.heap.size + 1) A B C hAB hCB s hs c
      (fun pre W => I pre W ∧ W.heap[w.heap.size + 1]? = some (.loop (rec .ready none)) ∧ W.heap[w.heap.size]? = some (.deferred (some [])))
      (fun pre W => ∃ c, Ix c pre W ∧ W.heap[w.heap.size + 1]? = some (.loop (rec .done (some c))) ∧ W.heap[w.heap.size]? = some (.deferred (some [])))
      ?_ ?_ W1 ((old A hAl).trans hA) ((old B hBl).trans hB) ((old C hCl).trans hC) ⟨hI1, hL1, hK1⟩).mono ?_
    · rintro pre W W' row ⟨hi, hl, hk⟩ hg' hr
      refine ⟨hI _ _ _ row hi hg' (fun r e => .inl (hr r e)), ?_, ?_⟩
      · have hlt := (Array.getElem?_eq_some_iff.1 hl).1
        exact (hg'.block _ hlt (fun e => by have := hr _ e.symm; omega)).trans hl
      · have hlt := (Array.getElem?_eq_some_iff.1 hk).1
        exact (hg'.block _ hlt (fun e => by have := hr _ e.symm; omega)).trans hk
    · -- ONE ROUND
      rintro pre x W ⟨hi, hl, hk⟩
      have hlt : w.heap.size + 1 < W.heap.size := (Array.getElem?_eq_some_iff.1 hl).1
      have hy := run_yield (P := Tryz.prog) (args := #[.string ⟨x.toArray⟩]) hl (by rw [hrec]; simp [hps])
      rw [hrec] at hy
      refine ⟨fn, _, assign, body, hy, roundIn_of_wpIn hfn (hassign _ x W _ ⟨_, run_beginRound hl (by rw [hrec]), ?_⟩)⟩
      have hl2 : (W.putObj (w.heap.size + 1) (.loop { rec .ready none with state := .busy })).heap[w.heap.size + 1]? = some (.loop { rec .ready none with state := .busy }) := World.putObj_heap_same hlt
      have hk2 : (W.putObj (w.heap.size + 1) (.loop { rec .ready none with state := .busy })).heap[w.heap.size]? = some (.deferred (some [])) := (World.putObj_heap_other (by omega)).trans hk
      have hi2 : I pre (W.putObj (w.heap.size + 1) (.loop { rec .ready none with state := .busy })) :=
        hI _ _ _ (some _) hi (grownBy_putObj' W _ _) (fun r e => by cases e; exact .inr ⟨by omega, _, hl, rfl⟩)
      refine wpIn_mono (hbody _ pre x _ hi2) ?_
      have fin : ∀ (jump : Option Code) (W3 : World), KeepsOthers (W.putObj (w.heap.size + 1) (.loop { rec .ready none with state := .busy })) W3 →
          (Instr.endRound (w.heap.size + 1) jump).run Tryz.prog W3 = .ok (.bool jump.isNone) (W3.putObj (w.heap.size + 1) (.loop (rec (if jump.isNone then .ready else .done) jump))) ∧
          W3.heap[w.heap.size + 1]? = some (.loop { rec .ready none with state := .busy }) ∧
          (W3.putObj (w.heap.size + 1) (.loop (rec (if jump.isNone then .ready else .done) jump))).heap[w.heap.size + 1]? = some (.loop (rec (if jump.isNone then .ready else .done) jump)) ∧
          (W3.putObj (w.heap.size + 1) (.loop (rec (if jump.isNone then .ready else .done) jump))).heap[w.heap.size]? = some (.deferred (some [])) := fun jump W3 hk3 => by
        have hl3 := hk3.same _ _ hl2 rfl
        have := run_endRound (P := Tryz.prog) jump hl3
        rw [hrec] at this ⊢
        exact ⟨this, by rw [hrec] at hl3; exact hl3, World.putObj_heap_same (Array.getElem?_eq_some_iff.1 hl3).1, (World.putObj_heap_other (by omega)).trans (hk3.same _ _ hk2 rfl)⟩
      rintro e a3 W3 hp
      cases e with
      | normal =>
        obtain ⟨hk3, hi3, hb3⟩ := hp
        obtain ⟨hr, hl3, hl4, hk4⟩ := fin none W3 hk3
        refine ⟨_, _, hr, .inl ⟨rfl, ⟨hI _ _ _ (some _) hi3 (grownBy_putObj' W3 _ _) (fun r e => by cases e; exact .inr ⟨by omega, _, hl3, rfl⟩), hl4, hk4⟩, fun b hb => ?_⟩⟩
        have hne : b ≠ w.heap.size + 1 := by rcases hb with rfl | rfl | rfl <;> omega
        exact (World.putObj_heap_other hne).trans ((hb3 b hb).trans (World.putObj_heap_other hne))
      | ret =>
        obtain ⟨hk3, hi3⟩ := hp
        obtain ⟨hr, hl3, hl4, hk4⟩ := fin (some .ret) W3 hk3
        exact ⟨_, _, hr, .inr ⟨rfl, .ret, hIx _ _ _ _ (some _) hi3 (grownBy_putObj' W3 _ _) (fun r e => by cases e; exact ⟨by omega, _, hl3, rfl⟩), hl4, hk4⟩⟩
      | exit id =>
        obtain ⟨hk3, hi3⟩ := hp
        obtain ⟨hr, hl3, hl4, hk4⟩ := fin (some (.exit id)) W3 hk3
        exact ⟨_, _, hr, .inr ⟨rfl, .exit id, hIx _ _ _ _ (some _) hi3 (grownBy_putObj' W3 _ _) (fun r e => by cases e; exact ⟨by omega, _, hl3, rfl⟩), hl4, hk4⟩⟩
      | goto t =>
        obtain ⟨hk3, hi3⟩ := hp
        obtain ⟨hr, hl3, hl4, hk4⟩ := fin (some (.goto t)) W3 hk3
        exact ⟨_, _, hr, .inr ⟨rfl, .goto t, hIx _ _ _ _ (some _) hi3 (grownBy_putObj' W3 _ _) (fun r e => by cases e; exact ⟨by omega, _, hl3, rfl⟩), hl4, hk4⟩⟩
      | panic ch => exact hp.elim
      | outgrown => exact hp.elim
    · rintro e W2 ⟨⟨v, rfl⟩, (⟨hi, hl, hk⟩ | ⟨pre, hSp, c, hi, hl, hk⟩)⟩
      · refine ⟨none, _, by have := run_endLoop (P := Tryz.prog) hl (by rw [hrec]; simp); rw [hrec] at this; exact this, hdone _ _ (hI _ _ _ (some _) hi (grownBy_putObj' W2 _ _) (fun r e => by cases e; exact .inr ⟨by omega, _, hl, rfl⟩)) ((World.putObj_heap_other (by omega)).trans hk) (Nat.le_refl _)⟩
      · exact ⟨some c, _, by have := run_endLoop (P := Tryz.prog) hl (by rw [hrec]; simp); rw [hrec] at this; exact this, hstop _ c pre _ hSp (hIx c _ _ _ (some _) hi (grownBy_putObj' W2 _ _) (fun r e => by cases e; exact ⟨by omega, _, hl, rfl⟩)) ((World.putObj_heap_other (by omega)).trans hk) (Nat.le_refl _)⟩
end Go.Proofs
namespace Go.Proofs
open Go.RowKit Go.Shelf
attribute [local go_sem] Oper.semAt_some

def boxes3 (w : World) (s c : ByteArray) : World := ((w.alloc (.cells #[.string s] 9)).alloc (.cells #[.string c] 9)).alloc (.cells #[.int .i64 0] 3)

set_option maxRecDepth 100000 in
set_option maxHeartbeats 2000000 in
theorem splitSeq0_in (n : Nat) (s c : ByteArray) (w : World) :
    CallsIn Fence.wide n Tryz.prog 107 #[.string s, .string c, .int .i64 0] w fun e w' => e = .returned (.func (.func 133) #[] #[.pointer (some ⟨w.heap.size + 1, 0, none⟩), .pointer (some ⟨w.heap.size, 0, none⟩), .pointer (some ⟨w.heap.size + 2, 0, none⟩)]) ∧
      w' = boxes3 w s c := by
  refine callsIn_of_wp Tryz.func107 rfl trivial ?_ rfl
  simp only [Tryz.ntmps107, List.size_toArray, List.length_cons, List.length_nil, Nat.reduceAdd, Nat.reduceSub, Array.replicate_succ, Array.replicate_zero, List.push_toArray, List.append_toArray, List.nil_append, List.cons_append]
  gi_wp2
  go_ret
  exact ⟨by simp, rfl⟩

set_option maxRecDepth 100000 in
set_option maxHeartbeats 2000000 in
theorem splitSeq_in (n : Nat) (hn : 3 ≤ n) (s c : ByteArray) (w : World) :
    CallsIn Fence.wide n Tryz.prog 64 #[.string s, .string c] w fun e w' => e = .returned (.func (.func 133) #[] #[.pointer (some ⟨w.heap.size + 1, 0, none⟩), .pointer (some ⟨w.heap.size, 0, none⟩), .pointer (some ⟨w.heap.size + 2, 0, none⟩)]) ∧
      w' = boxes3 w s c := by
  have h1 : 1 ≤ n := by omega
  refine callsIn_of_wp Tryz.func64 rfl trivial ?_ rfl
  simp only [Tryz.ntmps64, List.size_toArray, List.length_cons, List.length_nil, Nat.reduceAdd, Nat.reduceSub, Array.replicate_succ, Array.replicate_zero, List.push_toArray, List.append_toArray, List.nil_append, List.cons_append]
  gi_wp2_with (refine ⟨trivial, ?_⟩; gi_at_call 107; refine (splitSeq0_in _ _ _ _).mono ?_; rintro e w' ⟨rfl, rfl⟩)
  go_ret
  exact ⟨rfl, rfl⟩

set_option maxRecDepth 100000 in
set_option maxHeartbeats 2000000 in
theorem clean1_calls (x : Nat) (w : World) : Calls Tryz.prog 66 #[encR x] w fun e w' => e = .returned (.bool (decide (x < 32) || decide (126 < x))) ∧ w' = w := by
  unfold encR
  go_enter Tryz.func66, Tryz.ntmps66
  go_wp2
  · rename_i h
    go_ret
    refine ⟨?_, rfl⟩
    have e1 : decide ((x : Int) < 32) = decide (x < 32) := by simp; omega
    have e2 : decide (126 < (x : Int)) = decide (126 < x) := by simp; omega
    rw [e1, e2]; rfl
  · rename_i h
    go_ret
    refine ⟨?_, rfl⟩
    have : x < 32 := by omega
    simp [this]

def cleanP (r : Nat) : Bool := decide (r < 32) || decide (126 < r)
/-- A part of a path that may not be. -/
def badPart (x : List UInt8) : Bool := decide (x = []) || decide (x = [46]) || decide (x = [46, 46])
def anyBad (l : List (List UInt8)) : Bool := l.any badPart
/-- snap.Clean -/
def cleanF (s : List UInt8) : Bool := !decide (200 < s.length) && !anyBad (splitB 47 s) && !decide (0 ≤ Lib.idxFunc cleanP true ⟨s.toArray⟩)

theorem below_boxes3 (w : World) (s c : ByteArray) : Below w.heap.size w (boxes3 w s c) :=
  (((Below.refl _ w).alloc (Nat.le_refl _) _).alloc (by simp) _).alloc (by simp; omega) _

set_option maxRecDepth 100000 in
set_option maxHeartbeats 4000000 in
theorem clean_in (n : Nat) (hn : 10 ≤ n) (s : List UInt8) (w : World) :
    CallsIn Fence.wide n Tryz.prog 33 #[.string ⟨s.toArray⟩] w fun e w' => e = .returned (.bool (cleanF s)) ∧ Below w.heap.size w w' := by
  have h1 : 1 ≤ n := by omega
  refine callsIn_of_wp_marks Tryz.func33 rfl trivial ?_ rfl
  simp only [Tryz.ntmps33, List.size_toArray, List.length_cons, List.length_nil, Nat.reduceAdd, Nat.reduceSub, Array.replicate_succ, Array.replicate_zero, List.push_toArray, List.append_toArray, List.nil_append, List.cons_append]
  gi_wp2_with (refine ⟨trivial, ?_⟩; gi_at_call 64; refine (splitSeq_in _ (by omega) _ _ _).mono ?_; rintro e w' ⟨rfl, rfl⟩)
  · rename_i h
    have hf : cleanF s = false := by
      have : 200 < s.length := by omega
      simp [cleanF, this]
    rw [hf]
    exact ⟨.bool false, by simp [results, Tryz.f33, go_sem], rfl, (Below.refl _ w).alloc (Nat.le_refl _) _⟩
  · rename_i h
    have hlen : ¬ 200 < s.length := by omega
    have hs : s.length < 4611686018427387904 := by omega
    obtain ⟨w1, hw1⟩ : ∃ w1, boxes3 (w.alloc (Obj.cells #[Value.bool false] 4)) ⟨s.toArray⟩ ⟨#[47]⟩ = w1 := ⟨_, rfl⟩
    rw [hw1]
    have hsz : w1.heap.size = w.heap.size + 4 := by rw [← hw1]; simp [boxes3]
    have hR : w1.heap[w.heap.size]? = some (.cells #[.bool false] 4) := by
      rw [← hw1]
      exact ((below_boxes3 _ _ _).block _ (by simp)).trans (World.alloc_heap_new w _)
    have hbel : Below w.heap.size w w1 := by
      rw [← hw1]
      exact ((Below.refl _ w).alloc (Nat.le_refl _) _).trans ((below_boxes3 (w.alloc (Obj.cells #[Value.bool false] 4)) _ _).mono (by simp))
    refine wpIn_split n (by omega) (w.heap.size + 1 + 1) (w.heap.size + 1) (w.heap.size + 1 + 2) rfl (enters_of Tryz.func133 (by kernel_rfl) rfl) (by omega) (by omega) s hs 47 rfl ?_ ?_ ?_
      (fun pre W => anyBad pre = false ∧ W.heap[w.heap.size]? = some (.cells #[.bool false] 4) ∧ Below w.heap.size w W)
      (fun c pre W => c = .ret ∧ anyBad pre = true ∧ W.heap[w.heap.size]? = some (.cells #[.bool false] 4) ∧ Below w.heap.size w W)
      ?_ ?_ ⟨rfl, hR, hbel⟩ (fun x => { tmps := #[.string ⟨s.toArray⟩, undef, .pointer (some ⟨w.heap.size, 0, none⟩), .string ⟨x.toArray⟩, .string ⟨s.toArray⟩, .int .i64 s.length, .bool (decide (200 < (s.length : Int))), .string ⟨s.toArray⟩, .func (.func 133) #[] #[.pointer (some ⟨w.heap.size + 1 + 1, 0, none⟩), .pointer (some ⟨w.heap.size + 1, 0, none⟩), .pointer (some ⟨w.heap.size + 1 + 2, 0, none⟩)], .string ⟨x.toArray⟩, undef, undef, undef, undef, undef, undef, undef, undef, undef, undef, undef, undef, undef], defers := [] }) ?assign ?body ?done ?stop
    · rw [← hw1]
      exact (Below.heap_alloc _ _ _ (by simp)).trans (by have := World.alloc_heap_new ((w.alloc (Obj.cells #[Value.bool false] 4)).alloc (.cells #[.string ⟨s.toArray⟩] 9)) (.cells #[.string ⟨#[47]⟩] 9); rwa [World.size_alloc, World.size_alloc] at this)
    · rw [← hw1]
      exact (Below.heap_alloc _ _ _ (by simp)).trans ((Below.heap_alloc _ _ _ (by simp)).trans (by have := World.alloc_heap_new (w.alloc (Obj.cells #[Value.bool false] 4)) (.cells #[.string ⟨s.toArray⟩] 9); rwa [World.size_alloc] at this))
    · rw [← hw1]
      have := World.alloc_heap_new (((w.alloc (Obj.cells #[Value.bool false] 4)).alloc (.cells #[.string ⟨s.toArray⟩] 9)).alloc (.cells #[.string ⟨#[47]⟩] 9)) (.cells #[.int .i64 0] 3)
      rwa [World.size_alloc, World.size_alloc, World.size_alloc] at this
    · rintro pre W W' row ⟨h1, h2, h3⟩ hg hr
      refine ⟨h1, (hg.block _ (Array.getElem?_eq_some_iff.1 h2).1 (fun e => ?_)).trans h2, ⟨hg.os.trans h3.os, hg.tape.trans h3.tape, hg.output.trans h3.output, Nat.le_trans h3.size hg.size, fun k hk => (hg.block k (Nat.lt_of_lt_of_le hk h3.size) (fun e => ?_)).trans (h3.block k hk)⟩⟩
      · rcases hr _ e.symm with hh | ⟨hh, _⟩ <;> omega
      · rcases hr _ e.symm with hh | ⟨hh, _⟩ <;> omega
    · rintro c pre W W' row ⟨h0, h1, h2, h3⟩ hg hr
      refine ⟨h0, h1, (hg.block _ (Array.getElem?_eq_some_iff.1 h2).1 (fun e => ?_)).trans h2, ⟨hg.os.trans h3.os, hg.tape.trans h3.tape, hg.output.trans h3.output, Nat.le_trans h3.size hg.size, fun k hk => (hg.block k (Nat.lt_of_lt_of_le hk h3.size) (fun e => ?_)).trans (h3.block k hk)⟩⟩
      · have := (hr _ e.symm).1; omega
      · have := (hr _ e.symm).1; omega
    case assign =>
      intro l x W K hK
      gi_wp2
      exact hK
    case body =>
      rintro l pre x W ⟨hp, hcR, hbW⟩
      have hcc : W.cell? ⟨w.heap.size, 0, none⟩ = some (.bool false) := by simp [World.cell?, hcR]
      have hfz : W.frozen? ⟨w.heap.size, 0, none⟩ = false := by simp [World.frozen?, hcR]
      have hset : W.setCell ⟨w.heap.size, 0, none⟩ (.bool false) = W := by
        unfold World.setCell
        have : W.heap.modify w.heap.size (fun o => match o with | .cells c elem frozen => .cells (if (none : Option Nat).isSome then c else c.setIfInBounds 0 (.bool false)) elem frozen | o => o) = W.heap := by
          apply Array.ext_getElem?
          intro k
          rw [Array.getElem?_modify]
          split
          · rename_i e; subst e; rw [hcR]; simp
          · rfl
        exact congrArg (fun h => { W with heap := h }) this
      gi_wp2
      · rename_i hx
        exact ⟨KeepsOthers.refl _, rfl, by simp [anyBad, badPart, hx], hcR, hbW⟩
      · rename_i hx
        exact ⟨KeepsOthers.refl _, rfl, by simp [anyBad, badPart, hx], hcR, hbW⟩
      · rename_i hx
        refine ⟨KeepsOthers.refl _, rfl, ?_, hcR, hbW⟩
        simp only [anyBad, List.any_append, List.any_cons, List.any_nil, badPart, Bool.or_false]
        rcases hx with (h | h) | h
        · simp [List.isEmpty_iff.1 h]
        · simp [eq_of_beq h]
        · simp [eq_of_beq h]
      · rename_i hx
        refine ⟨KeepsOthers.refl _, ⟨?_, hcR, hbW⟩, fun b hb => rfl⟩
        unfold anyBad at hp ⊢
        rw [List.any_append, hp]
        simp only [List.any_cons, List.any_nil, badPart, Bool.or_false, Bool.false_or]
        obtain ⟨⟨h1, h2⟩, h3⟩ := hx
        have g1 : x ≠ [] := by intro e; subst e; simp at h1
        have g2 : x ≠ [46] := by intro e; subst e; simp at h2
        have g3 : x ≠ [46, 46] := by intro e; subst e; simp at h3
        simp [g1, g2, g3]
    case done =>
      rintro D W ⟨hp, hcR, hbW⟩ hK hD
      have hcc : W.cell? ⟨w.heap.size, 0, none⟩ = some (.bool false) := by simp [World.cell?, hcR]
      have hfz : W.frozen? ⟨w.heap.size, 0, none⟩ = false := by simp [World.frozen?, hcR]
      gi_wp2_with (gi_at_call 65; fail)
      refine ⟨trivial, (callsIn_wide.2 (Tryz.strings_ContainsFunc_grows 66 #[] (enters_of Tryz.func66 (by kernel_rfl) rfl) cleanP _ _ (fun W x hx hb => (clean1_calls x W).mono (fun e w' h => ⟨h.1, h.2 ▸ Below.refl _ _⟩)))).mono ?_⟩
      rintro e w' ⟨rfl, hb'⟩
      have hR' := (hb'.block _ (Array.getElem?_eq_some_iff.1 hcR).1).trans hcR
      have hK' := (hb'.block _ (Array.getElem?_eq_some_iff.1 hK).1).trans hK
      have hcc' : w'.cell? ⟨w.heap.size, 0, none⟩ = some (.bool false) := by simp [World.cell?, hR']
      have hfz' : w'.frozen? ⟨w.heap.size, 0, none⟩ = false := by simp [World.frozen?, hR']
      gi_wp2
      have hf : cleanF s = !decide (0 ≤ Lib.idxFunc cleanP true ⟨s.toArray⟩) := by simp [cleanF, hp, hlen]
      rw [hf]
      have hne : D ≠ w.heap.size := by omega
      have hK2 : (w'.setCell ⟨w.heap.size, 0, none⟩ (.bool !decide (0 ≤ Lib.idxFunc cleanP true ⟨s.toArray⟩))).heap[D]? = some (.deferred (some [])) := (setBox_other hne).trans hK'
      have hR2 := setBox_same (v := .bool !decide (0 ≤ Lib.idxFunc cleanP true ⟨s.toArray⟩)) hR'
      have hc2 : (w'.setCell ⟨w.heap.size, 0, none⟩ (.bool !decide (0 ≤ Lib.idxFunc cleanP true ⟨s.toArray⟩))).cell? ⟨w.heap.size, 0, none⟩ = some (.bool !decide (0 ≤ Lib.idxFunc cleanP true ⟨s.toArray⟩)) := by simp [World.cell?, hR2]
      refine ⟨by simp, .inl ⟨_, _, rfl, run_takeDeferred hK2, ?_⟩⟩
      have hc5 := cell_kept hc2 (grownBy_putObj' _ D (.deferred none)) (fun r e => by cases e; exact ⟨_, hK2, rfl⟩)
      refine ⟨_, by simp [results, Tryz.f33, go_sem, hc5], rfl, ?_⟩
      have hb2 : Below w.heap.size w w' := hbW.trans (hb'.mono hbW.size)
      exact ⟨hb2.os, hb2.tape, hb2.output, Nat.le_trans hb2.size (by simp [World.setCell]), fun k hk => (World.putObj_heap_other (by omega)).trans ((setBox_other (by omega)).trans (hb2.block k hk))⟩
    case stop =>
      rintro D c pre W hpre ⟨rfl, hp, hcR, hbW⟩ hK hD
      have hcc : W.cell? ⟨w.heap.size, 0, none⟩ = some (.bool false) := by simp [World.cell?, hcR]
      have hany : anyBad (splitB 47 s) = true := by
        obtain ⟨t, ht⟩ := hpre
        unfold anyBad at hp ⊢
        rw [← ht, List.any_append, hp]; rfl
      have hf : cleanF s = false := by simp [cleanF, hany]
      gi_wp2
      rw [hf]
      refine ⟨by simp, .inl ⟨_, _, rfl, run_takeDeferred hK, ?_⟩⟩
      have hc5 := cell_kept hcc (grownBy_putObj' _ D (.deferred none)) (fun r e => by cases e; exact ⟨_, hK, rfl⟩)
      refine ⟨.bool false, by simp [results, Tryz.f33, go_sem, hc5], rfl, ?_⟩
      exact ⟨hbW.os, hbW.tape, hbW.output, Nat.le_trans hbW.size (by simp), fun k hk => (World.putObj_heap_other (by omega)).trans (hbW.block k hk)⟩

theorem clean_calls (s : List UInt8) (w : World) : Calls Tryz.prog 33 #[.string ⟨s.toArray⟩] w fun e w' => e = .returned (.bool (cleanF s)) ∧ Below w.heap.size w w' :=
  callsIn_wide.1 (clean_in 10 (by omega) s w)
end Go.Proofs
set_option maxRecDepth 100000
namespace Go.AM
open Go.Proofs
noncomputable def r1 : Row := ⟨.other, 1, false, 8, none, [.nilf], false⟩
noncomputable def r2 : Row := ⟨.int .i64, 1, false, 8, some (.int .i64), [.ty (.int .i64)], false⟩
noncomputable def r3 : Row := ⟨.int .i64, 1, false, 8, some (.int .i64), [.ty (.int .i64)], false⟩
noncomputable def r4 : Row := ⟨.bool, 1, false, 1, some .bool, [.ty .bool], false⟩
noncomputable def r5 : Row := ⟨.int .u8, 1, false, 1, some (.int .u8), [.ty (.int .u8)], false⟩
noncomputable def r6 : Row := ⟨.int .u8, 1, false, 1, some (.int .u8), [.ty (.int .u8)], false⟩
noncomputable def r7 : Row := ⟨.struct [(0, 2), (1, 3), (2, 4), (3, 6)], 4, true, 24, some (.prod (.int .i64) (.prod (.int .i64) (.prod .bool (.int .u8)))), [.ty (.int .i64), .ty (.int .i64), .ty .bool, .ty (.int .u8)], true⟩
noncomputable def r8 : Row := ⟨.struct [(0, 2), (1, 3), (2, 4), (3, 6)], 4, true, 24, some (.prod (.int .i64) (.prod (.int .i64) (.prod .bool (.int .u8)))), [.ty (.int .i64), .ty (.int .i64), .ty .bool, .ty (.int .u8)], true⟩
noncomputable def r9 : Row := ⟨.str, 1, false, 16, some .str, [.ty .str], false⟩
noncomputable def r10 : Row := ⟨.str, 1, false, 16, some .str, [.ty .str], false⟩
noncomputable def r11 : Row := ⟨.str, 1, false, 16, some .str, [.ty .str], false⟩
noncomputable def r12 : Row := ⟨.int .u64, 1, false, 8, some (.int .u64), [.ty (.int .u64)], false⟩
noncomputable def r15 : Row := ⟨.ptr 234, 1, false, 8, none, [.nilp], false⟩
noncomputable def r16 : Row := ⟨.ptr 237, 1, false, 8, none, [.nilp], false⟩
noncomputable def r17 : Row := ⟨.ptr 244, 1, false, 8, none, [.nilp], false⟩
noncomputable def r18 : Row := ⟨.struct [(0, 17)], 1, true, 8, none, [.nilp], false⟩
noncomputable def r19 : Row := ⟨.struct [(0, 17)], 1, true, 8, none, [.nilp], false⟩
noncomputable def r20 : Row := ⟨.iface, 1, false, 16, none, [.nili], false⟩
noncomputable def r21 : Row := ⟨.int .i32, 1, false, 4, some (.int .i32), [.ty (.int .i32)], false⟩
noncomputable def r22 : Row := ⟨.struct [(0, 3), (1, 9)], 2, true, 24, some (.prod (.int .i64) .str), [.ty (.int .i64), .ty .str], true⟩
noncomputable def r23 : Row := ⟨.struct [(0, 3), (1, 9)], 2, true, 24, some (.prod (.int .i64) .str), [.ty (.int .i64), .ty .str], true⟩
noncomputable def r24 : Row := ⟨.slice 27, 1, false, 24, some (.sl (.prod .str .str)), [.nils], false⟩
noncomputable def r25 : Row := ⟨.other, 1, false, 8, none, [.nilf], false⟩
noncomputable def r26 : Row := ⟨.struct [(0, 9), (1, 9)], 2, true, 32, some (.prod .str .str), [.ty .str, .ty .str], true⟩
noncomputable def r27 : Row := ⟨.struct [(0, 9), (1, 9)], 2, true, 32, some (.prod .str .str), [.ty .str, .ty .str], true⟩
noncomputable def r28 : Row := ⟨.int .i64, 1, false, 8, some (.int .i64), [.ty (.int .i64)], false⟩
noncomputable def r30 : Row := ⟨.other, 1, false, 8, none, [.nilf], false⟩
noncomputable def r31 : Row := ⟨.other, 1, false, 8, none, [.nilf], false⟩
noncomputable def r32 : Row := ⟨.other, 1, false, 8, none, [.nilf], false⟩
noncomputable def r33 : Row := ⟨.other, 1, false, 8, none, [.nilf], false⟩
noncomputable def r35 : Row := ⟨.other, 1, false, 8, none, [.nilf], false⟩
noncomputable def r36 : Row := ⟨.other, 1, false, 8, none, [.nilf], false⟩
noncomputable def r37 : Row := ⟨.other, 1, false, 8, none, [.nilf], false⟩
noncomputable def r38 : Row := ⟨.ptr 58, 1, false, 8, some (.ptr (.prod (.sl (.prod .str .str)) (.int .i64))), [.nilp], false⟩
noncomputable def r40 : Row := ⟨.other, 1, false, 8, none, [.nilf], false⟩
noncomputable def r41 : Row := ⟨.other, 1, false, 8, none, [.nilf], false⟩
noncomputable def r43 : Row := ⟨.other, 1, false, 8, none, [.nilf], false⟩
noncomputable def r44 : Row := ⟨.other, 1, false, 8, none, [.nilf], false⟩
noncomputable def r45 : Row := ⟨.other, 1, false, 8, none, [.nilf], false⟩
noncomputable def r47 : Row := ⟨.other, 1, false, 8, none, [.nilf], false⟩
noncomputable def r48 : Row := ⟨.other, 1, false, 8, none, [.nilf], false⟩
noncomputable def r49 : Row := ⟨.other, 1, false, 8, none, [.nilf], false⟩
noncomputable def r50 : Row := ⟨.other, 1, false, 8, none, [.nilf], false⟩
noncomputable def r51 : Row := ⟨.other, 1, false, 8, none, [.nilf], false⟩
noncomputable def r52 : Row := ⟨.int .u64, 1, false, 8, some (.int .u64), [.ty (.int .u64)], false⟩
noncomputable def r53 : Row := ⟨.int .u32, 1, false, 4, some (.int .u32), [.ty (.int .u32)], false⟩
noncomputable def r54 : Row := ⟨.other, 1, false, 8, none, [.nilf], false⟩
noncomputable def r55 : Row := ⟨.slice 5, 1, false, 24, some (.sl (.int .u8)), [.nils], false⟩
noncomputable def r56 : Row := ⟨.other, 1, false, 8, none, [.nilf], false⟩
noncomputable def r57 : Row := ⟨.struct [(0, 24), (1, 3)], 2, true, 32, some (.prod (.sl (.prod .str .str)) (.int .i64)), [.nils, .ty (.int .i64)], false⟩
noncomputable def r58 : Row := ⟨.struct [(0, 24), (1, 3)], 2, true, 32, some (.prod (.sl (.prod .str .str)) (.int .i64)), [.nils, .ty (.int .i64)], false⟩
noncomputable def r59 : Row := ⟨.other, 1, false, 8, none, [.nilf], false⟩
noncomputable def r60 : Row := ⟨.other, 1, false, 8, none, [.nilf], false⟩
noncomputable def r61 : Row := ⟨.other, 1, false, 8, none, [.nilf], false⟩
noncomputable def r62 : Row := ⟨.slice 9, 1, false, 24, some (.sl .str), [.nils], false⟩
noncomputable def r63 : Row := ⟨.other, 1, false, 8, none, [.nilf], false⟩
noncomputable def r65 : Row := ⟨.other, 1, false, 8, none, [.nilf], false⟩
noncomputable def r66 : Row := ⟨.other, 1, false, 8, none, [.nilf], false⟩
noncomputable def r67 : Row := ⟨.other, 1, false, 8, none, [.nilf], false⟩
noncomputable def r68 : Row := ⟨.slice 53, 1, false, 24, some (.sl (.int .u32)), [.nils], false⟩
noncomputable def r69 : Row := ⟨.other, 1, false, 8, none, [.nilf], false⟩
noncomputable def r70 : Row := ⟨.other, 1, false, 8, none, [.nilf], false⟩
noncomputable def r71 : Row := ⟨.other, 1, false, 8, none, [.nilf], false⟩
noncomputable def r72 : Row := ⟨.ptr 76, 1, false, 8, some (.ptr (.prod (.sl .bool) (.prod (.int .i64) (.prod (.sl (.int .u8)) (.prod (.int .i64) (.int .i64)))))), [.nilp], false⟩
noncomputable def r73 : Row := ⟨.slice 4, 1, false, 24, some (.sl .bool), [.nils], false⟩
noncomputable def r74 : Row := ⟨.other, 1, false, 8, none, [.nilf], false⟩
noncomputable def r75 : Row := ⟨.struct [(0, 73), (1, 3), (2, 55), (3, 3), (4, 3)], 5, true, 72, some (.prod (.sl .bool) (.prod (.int .i64) (.prod (.sl (.int .u8)) (.prod (.int .i64) (.int .i64))))), [.nils, .ty (.int .i64), .nils, .ty (.int .i64), .ty (.int .i64)], false⟩
noncomputable def r76 : Row := ⟨.struct [(0, 73), (1, 3), (2, 55), (3, 3), (4, 3)], 5, true, 72, some (.prod (.sl .bool) (.prod (.int .i64) (.prod (.sl (.int .u8)) (.prod (.int .i64) (.int .i64))))), [.nils, .ty (.int .i64), .nils, .ty (.int .i64), .ty (.int .i64)], false⟩
noncomputable def r77 : Row := ⟨.other, 1, false, 8, none, [.nilf], false⟩
noncomputable def r78 : Row := ⟨.other, 1, false, 8, none, [.nilf], false⟩
noncomputable def r79 : Row := ⟨.slice 3, 1, false, 24, some (.sl (.int .i64)), [.nils], false⟩
noncomputable def r81 : Row := ⟨.other, 1, false, 8, none, [.nilf], false⟩
noncomputable def r82 : Row := ⟨.other, 1, false, 8, none, [.nilf], false⟩
noncomputable def r83 : Row := ⟨.other, 1, false, 8, none, [.nilf], false⟩
noncomputable def r84 : Row := ⟨.other, 1, false, 8, none, [.nilf], false⟩
noncomputable def r85 : Row := ⟨.int .u64, 1, false, 8, some (.int .u64), [.ty (.int .u64)], false⟩
noncomputable def r86 : Row := ⟨.other, 1, false, 8, none, [.nilf], false⟩
noncomputable def r87 : Row := ⟨.other, 1, false, 8, none, [.nilf], false⟩
noncomputable def r88 : Row := ⟨.other, 1, false, 8, none, [.nilf], false⟩
noncomputable def r89 : Row := ⟨.other, 1, false, 8, none, [.nilf], false⟩
noncomputable def r90 : Row := ⟨.other, 1, false, 8, none, [.nilf], false⟩
noncomputable def r91 : Row := ⟨.other, 1, false, 8, none, [.nilf], false⟩
noncomputable def r93 : Row := ⟨.other, 1, false, 8, none, [.nilf], false⟩
noncomputable def r94 : Row := ⟨.other, 1, false, 8, none, [.nilf], false⟩
noncomputable def r95 : Row := ⟨.other, 1, false, 8, none, [.nilf], false⟩
noncomputable def r96 : Row := ⟨.other, 1, false, 8, none, [.nilf], false⟩
noncomputable def r98 : Row := ⟨.other, 1, false, 8, none, [.nilf], false⟩
noncomputable def r99 : Row := ⟨.other, 1, false, 8, none, [.nilf], false⟩
noncomputable def r100 : Row := ⟨.other, 1, false, 8, none, [.nilf], false⟩
noncomputable def r101 : Row := ⟨.struct [(0, 68), (1, 9), (2, 52)], 3, true, 48, some (.prod (.sl (.int .u32)) (.prod .str (.int .u64))), [.nils, .ty .str, .ty (.int .u64)], false⟩
noncomputable def r102 : Row := ⟨.struct [(0, 68), (1, 9), (2, 52)], 3, true, 48, some (.prod (.sl (.int .u32)) (.prod .str (.int .u64))), [.nils, .ty .str, .ty (.int .u64)], false⟩
noncomputable def r103 : Row := ⟨.struct [(0, 102)], 3, true, 48, some (.prod (.prod (.sl (.int .u32)) (.prod .str (.int .u64))) .unit), [.nils, .ty .str, .ty (.int .u64)], false⟩
noncomputable def r104 : Row := ⟨.struct [(0, 102)], 3, true, 48, some (.prod (.prod (.sl (.int .u32)) (.prod .str (.int .u64))) .unit), [.nils, .ty .str, .ty (.int .u64)], false⟩
noncomputable def r105 : Row := ⟨.other, 1, false, 8, none, [.nilf], false⟩
noncomputable def r106 : Row := ⟨.other, 1, false, 8, none, [.nilf], false⟩
noncomputable def r108 : Row := ⟨.other, 1, false, 8, none, [.nilf], false⟩
noncomputable def r109 : Row := ⟨.struct [(0, 55), (1, 52), (2, 3)], 3, true, 40, some (.prod (.sl (.int .u8)) (.prod (.int .u64) (.int .i64))), [.nils, .ty (.int .u64), .ty (.int .i64)], false⟩
noncomputable def r110 : Row := ⟨.struct [(0, 55), (1, 52), (2, 3)], 3, true, 40, some (.prod (.sl (.int .u8)) (.prod (.int .u64) (.int .i64))), [.nils, .ty (.int .u64), .ty (.int .i64)], false⟩
noncomputable def r111 : Row := ⟨.ptr 166, 1, false, 8, some (.ptr (.prod (.sl (.int .i64)) (.prod (.arr 16 (.int .i64)) (.sl (.int .i64))))), [.nilp], false⟩
noncomputable def r113 : Row := ⟨.other, 1, false, 8, none, [.nilf], false⟩
noncomputable def r114 : Row := ⟨.other, 1, false, 8, none, [.nilf], false⟩
noncomputable def r115 : Row := ⟨.map 9 3, 1, false, 8, none, [.nilm], false⟩
noncomputable def r117 : Row := ⟨.other, 1, false, 8, none, [.nilf], false⟩
noncomputable def r119 : Row := ⟨.other, 1, false, 8, none, [.nilf], false⟩
noncomputable def r120 : Row := ⟨.other, 1, false, 8, none, [.nilf], false⟩
noncomputable def r121 : Row := ⟨.other, 1, false, 8, none, [.nilf], false⟩
noncomputable def r122 : Row := ⟨.other, 1, false, 8, none, [.nilf], false⟩
noncomputable def r123 : Row := ⟨.slice 73, 1, false, 24, some (.sl (.sl .bool)), [.nils], false⟩
noncomputable def r124 : Row := ⟨.other, 1, false, 8, none, [.nilf], false⟩
noncomputable def r126 : Row := ⟨.other, 1, false, 8, none, [.nilf], false⟩
noncomputable def r127 : Row := ⟨.other, 1, false, 8, none, [.nilf], false⟩
noncomputable def r128 : Row := ⟨.other, 1, false, 8, none, [.nilf], false⟩
noncomputable def r129 : Row := ⟨.other, 1, false, 8, none, [.nilf], false⟩
noncomputable def r130 : Row := ⟨.int .i64, 1, false, 8, some (.int .i64), [.ty (.int .i64)], false⟩
noncomputable def r132 : Row := ⟨.other, 1, false, 8, none, [.nilf], false⟩
noncomputable def r133 : Row := ⟨.other, 1, false, 8, none, [.nilf], false⟩
noncomputable def r134 : Row := ⟨.other, 1, false, 8, none, [.nilf], false⟩
noncomputable def r135 : Row := ⟨.other, 1, false, 8, none, [.nilf], false⟩
noncomputable def r136 : Row := ⟨.other, 1, false, 8, none, [.nilf], false⟩
noncomputable def r137 : Row := ⟨.other, 1, false, 8, none, [.nilf], false⟩
noncomputable def r138 : Row := ⟨.other, 1, false, 8, none, [.nilf], false⟩
noncomputable def r139 : Row := ⟨.other, 1, false, 8, none, [.nilf], false⟩
noncomputable def r140 : Row := ⟨.ptr 144, 1, false, 8, some (.ptr (.prod (.ptr (.prod .str (.prod (.int .i64) (.prod (.int .u64) (.prod (.int .i64) (.int .i64)))))) (.prod (.sl (.int .u8)) (.int .i64)))), [.nilp], false⟩
noncomputable def r141 : Row := ⟨.ptr 180, 1, false, 8, some (.ptr (.prod .str (.prod (.int .i64) (.prod (.int .u64) (.prod (.int .i64) (.int .i64)))))), [.nilp], false⟩
noncomputable def r142 : Row := ⟨.other, 1, false, 8, none, [.nilf], false⟩
noncomputable def r143 : Row := ⟨.struct [(0, 141), (1, 55), (2, 3)], 3, true, 40, some (.prod (.ptr (.prod .str (.prod (.int .i64) (.prod (.int .u64) (.prod (.int .i64) (.int .i64)))))) (.prod (.sl (.int .u8)) (.int .i64))), [.nilp, .nils, .ty (.int .i64)], false⟩
noncomputable def r144 : Row := ⟨.struct [(0, 141), (1, 55), (2, 3)], 3, true, 40, some (.prod (.ptr (.prod .str (.prod (.int .i64) (.prod (.int .u64) (.prod (.int .i64) (.int .i64)))))) (.prod (.sl (.int .u8)) (.int .i64))), [.nilp, .nils, .ty (.int .i64)], false⟩
noncomputable def r145 : Row := ⟨.other, 1, false, 8, none, [.nilf], false⟩
noncomputable def r146 : Row := ⟨.other, 1, false, 8, none, [.nilf], false⟩
noncomputable def r147 : Row := ⟨.struct [(0, 53), (1, 53)], 2, true, 8, some (.prod (.int .u32) (.int .u32)), [.ty (.int .u32), .ty (.int .u32)], true⟩
noncomputable def r148 : Row := ⟨.struct [(0, 53), (1, 53)], 2, true, 8, some (.prod (.int .u32) (.int .u32)), [.ty (.int .u32), .ty (.int .u32)], true⟩
noncomputable def r149 : Row := ⟨.other, 1, false, 8, none, [.nilf], false⟩
noncomputable def r150 : Row := ⟨.iface, 1, false, 16, some .err, [.nili], false⟩
noncomputable def r151 : Row := ⟨.iface, 1, false, 16, some .err, [.nili], false⟩
noncomputable def r153 : Row := ⟨.other, 1, false, 8, none, [.nilf], false⟩
noncomputable def r154 : Row := ⟨.other, 1, false, 8, none, [.nilf], false⟩
noncomputable def r155 : Row := ⟨.ptr 104, 1, false, 8, some (.ptr (.prod (.prod (.sl (.int .u32)) (.prod .str (.int .u64))) .unit)), [.nilp], false⟩
noncomputable def r156 : Row := ⟨.other, 1, false, 8, none, [.nilf], false⟩
noncomputable def r157 : Row := ⟨.other, 1, false, 8, none, [.nilf], false⟩
noncomputable def r158 : Row := ⟨.other, 1, false, 8, none, [.nilf], false⟩
noncomputable def r159 : Row := ⟨.other, 1, false, 8, none, [.nilf], false⟩
noncomputable def r160 : Row := ⟨.other, 1, false, 8, none, [.nilf], false⟩
noncomputable def r162 : Row := ⟨.other, 1, false, 8, none, [.nilf], false⟩
noncomputable def r163 : Row := ⟨.ptr 110, 1, false, 8, some (.ptr (.prod (.sl (.int .u8)) (.prod (.int .u64) (.int .i64)))), [.nilp], false⟩
noncomputable def r164 : Row := ⟨.arr 16 3, 16, true, 128, some (.arr 16 (.int .i64)), [.ty (.arr 16 (.int .i64))], false⟩
noncomputable def r165 : Row := ⟨.struct [(0, 79), (1, 164), (17, 79)], 18, true, 176, some (.prod (.sl (.int .i64)) (.prod (.arr 16 (.int .i64)) (.sl (.int .i64)))), [.nils, .ty (.arr 16 (.int .i64)), .nils], false⟩
noncomputable def r166 : Row := ⟨.struct [(0, 79), (1, 164), (17, 79)], 18, true, 176, some (.prod (.sl (.int .i64)) (.prod (.arr 16 (.int .i64)) (.sl (.int .i64)))), [.nils, .ty (.arr 16 (.int .i64)), .nils], false⟩
noncomputable def r169 : Row := ⟨.other, 1, false, 8, none, [.nilf], false⟩
noncomputable def r170 : Row := ⟨.int .u64, 1, false, 8, some (.int .u64), [.ty (.int .u64)], false⟩
noncomputable def r171 : Row := ⟨.other, 1, false, 8, none, [.nilf], false⟩
noncomputable def r172 : Row := ⟨.other, 1, false, 8, none, [.nilf], false⟩
noncomputable def r173 : Row := ⟨.other, 1, false, 8, none, [.nilf], false⟩
noncomputable def r174 : Row := ⟨.ptr 3, 1, false, 8, some (.ptr (.int .i64)), [.nilp], false⟩
noncomputable def r175 : Row := ⟨.other, 1, false, 8, none, [.nilf], false⟩
noncomputable def r177 : Row := ⟨.other, 1, false, 8, none, [.nilf], false⟩
noncomputable def r178 : Row := ⟨.other, 1, false, 8, none, [.nilf], false⟩
noncomputable def r179 : Row := ⟨.struct [(0, 9), (1, 3), (2, 52), (3, 3), (4, 3)], 5, true, 48, some (.prod .str (.prod (.int .i64) (.prod (.int .u64) (.prod (.int .i64) (.int .i64))))), [.ty .str, .ty (.int .i64), .ty (.int .u64), .ty (.int .i64), .ty (.int .i64)], true⟩
noncomputable def r180 : Row := ⟨.struct [(0, 9), (1, 3), (2, 52), (3, 3), (4, 3)], 5, true, 48, some (.prod .str (.prod (.int .i64) (.prod (.int .u64) (.prod (.int .i64) (.int .i64))))), [.ty .str, .ty (.int .i64), .ty (.int .u64), .ty (.int .i64), .ty (.int .i64)], true⟩
noncomputable def r182 : Row := ⟨.other, 1, false, 8, none, [.nilf], false⟩
noncomputable def r184 : Row := ⟨.other, 1, false, 8, none, [.nilf], false⟩
noncomputable def r186 : Row := ⟨.other, 1, false, 8, none, [.nilf], false⟩
noncomputable def r187 : Row := ⟨.other, 1, false, 8, none, [.nilf], false⟩
noncomputable def r188 : Row := ⟨.other, 1, false, 8, none, [.nilf], false⟩
noncomputable def r189 : Row := ⟨.ptr 148, 1, false, 8, some (.ptr (.prod (.int .u32) (.int .u32))), [.nilp], false⟩
noncomputable def r190 : Row := ⟨.other, 1, false, 8, none, [.nilf], false⟩
noncomputable def r191 : Row := ⟨.arr 24 5, 24, true, 24, some (.arr 24 (.int .u8)), [.ty (.arr 24 (.int .u8))], false⟩
noncomputable def r192 : Row := ⟨.other, 1, false, 8, none, [.nilf], false⟩
noncomputable def r194 : Row := ⟨.other, 1, false, 8, none, [.nilf], false⟩
noncomputable def r195 : Row := ⟨.ptr 102, 1, false, 8, some (.ptr (.prod (.sl (.int .u32)) (.prod .str (.int .u64)))), [.nilp], false⟩
noncomputable def r196 : Row := ⟨.other, 1, false, 8, none, [.nilf], false⟩
noncomputable def r197 : Row := ⟨.arr 80 53, 80, true, 320, some (.arr 80 (.int .u32)), [.ty (.arr 80 (.int .u32))], false⟩
noncomputable def r198 : Row := ⟨.other, 1, false, 8, none, [.nilf], false⟩
noncomputable def r199 : Row := ⟨.ptr 170, 1, false, 8, some (.ptr (.int .u64)), [.nilp], false⟩
noncomputable def r200 : Row := ⟨.other, 1, false, 8, none, [.nilf], false⟩
noncomputable def r201 : Row := ⟨.other, 1, false, 8, none, [.nilf], false⟩
noncomputable def r202 : Row := ⟨.other, 1, false, 8, none, [.nilf], false⟩
noncomputable def r203 : Row := ⟨.arr 19 3, 19, true, 152, some (.arr 19 (.int .i64)), [.ty (.arr 19 (.int .i64))], false⟩
noncomputable def r204 : Row := ⟨.other, 1, false, 8, none, [.nilf], false⟩
noncomputable def r205 : Row := ⟨.other, 1, false, 8, none, [.nilf], false⟩
noncomputable def r206 : Row := ⟨.int .i64, 1, false, 8, some (.int .i64), [.ty (.int .i64)], false⟩
noncomputable def r208 : Row := ⟨.other, 1, false, 8, none, [.nilf], false⟩
noncomputable def r209 : Row := ⟨.ptr 224, 1, false, 8, some (.ptr (.prod .str (.prod .str .err))), [.nilp], false⟩
noncomputable def r210 : Row := ⟨.other, 1, false, 8, none, [.nilf], false⟩
noncomputable def r211 : Row := ⟨.other, 1, false, 8, none, [.nilf], false⟩
noncomputable def r212 : Row := ⟨.other, 1, false, 8, none, [.nilf], false⟩
noncomputable def r213 : Row := ⟨.arr 20 52, 20, true, 160, some (.arr 20 (.int .u64)), [.ty (.arr 20 (.int .u64))], false⟩
noncomputable def r214 : Row := ⟨.arr 65 5, 65, true, 65, some (.arr 65 (.int .u8)), [.ty (.arr 65 (.int .u8))], false⟩
noncomputable def r215 : Row := ⟨.arr 256 5, 256, true, 256, some (.arr 256 (.int .u8)), [.ty (.arr 256 (.int .u8))], false⟩
noncomputable def r216 : Row := ⟨.struct [(0, 5), (1, 5)], 2, true, 2, some (.prod (.int .u8) (.int .u8)), [.ty (.int .u8), .ty (.int .u8)], true⟩
noncomputable def r217 : Row := ⟨.struct [(0, 5), (1, 5)], 2, true, 2, some (.prod (.int .u8) (.int .u8)), [.ty (.int .u8), .ty (.int .u8)], true⟩
noncomputable def r218 : Row := ⟨.arr 16 217, 32, true, 32, some (.arr 16 (.prod (.int .u8) (.int .u8))), [.ty (.arr 16 (.prod (.int .u8) (.int .u8)))], false⟩
noncomputable def r220 : Row := ⟨.other, 1, false, 8, none, [.nilf], false⟩
noncomputable def r222 : Row := ⟨.other, 1, false, 8, none, [.nilf], false⟩
noncomputable def r223 : Row := ⟨.struct [(0, 9), (1, 9), (2, 151)], 3, true, 48, some (.prod .str (.prod .str .err)), [.ty .str, .ty .str, .nili], false⟩
noncomputable def r224 : Row := ⟨.struct [(0, 9), (1, 9), (2, 151)], 3, true, 48, some (.prod .str (.prod .str .err)), [.ty .str, .ty .str, .nili], false⟩
noncomputable def r225 : Row := ⟨.other, 1, false, 8, none, [.nilf], false⟩
noncomputable def r226 : Row := ⟨.other, 1, false, 8, none, [.nilf], false⟩
noncomputable def r227 : Row := ⟨.ptr 5, 1, false, 8, some (.ptr (.int .u8)), [.nilp], false⟩
noncomputable def r228 : Row := ⟨.ptr 230, 1, false, 8, some (.ptr (.prod .str .unit)), [.nilp], false⟩
noncomputable def r229 : Row := ⟨.struct [(0, 9)], 1, true, 16, some (.prod .str .unit), [.ty .str], true⟩
noncomputable def r230 : Row := ⟨.struct [(0, 9)], 1, true, 16, some (.prod .str .unit), [.ty .str], true⟩
noncomputable def r231 : Row := ⟨.arr 32 5, 32, true, 32, some (.arr 32 (.int .u8)), [.ty (.arr 32 (.int .u8))], false⟩
noncomputable def r232 : Row := ⟨.arr 64 5, 64, true, 64, some (.arr 64 (.int .u8)), [.ty (.arr 64 (.int .u8))], false⟩
noncomputable def r233 : Row := ⟨.struct [(0, 17), (1, 17), (2, 17), (3, 9)], 4, true, 40, none, [.nilp, .nilp, .nilp, .ty .str], false⟩
noncomputable def r234 : Row := ⟨.struct [(0, 17), (1, 17), (2, 17), (3, 9)], 4, true, 40, none, [.nilp, .nilp, .nilp, .ty .str], false⟩
noncomputable def r235 : Row := ⟨.arr 0 16, 0, true, 0, none, [], false⟩
noncomputable def r236 : Row := ⟨.struct [(0, 235)], 0, true, 0, none, [], false⟩
noncomputable def r237 : Row := ⟨.struct [(0, 235)], 0, true, 0, none, [], false⟩
noncomputable def r238 : Row := ⟨.int .u8, 1, false, 1, some (.int .u8), [.ty (.int .u8)], false⟩
noncomputable def r239 : Row := ⟨.int .u8, 1, false, 1, some (.int .u8), [.ty (.int .u8)], false⟩
noncomputable def r240 : Row := ⟨.other, 1, false, 8, none, [.nilf], false⟩
noncomputable def r241 : Row := ⟨.int .i32, 1, false, 4, some (.int .i32), [.ty (.int .i32)], false⟩
noncomputable def r242 : Row := ⟨.int .i32, 1, false, 4, some (.int .i32), [.ty (.int .i32)], false⟩
noncomputable def r243 : Row := ⟨.struct [(0, 12), (1, 12), (2, 53), (3, 238), (4, 5), (5, 5), (6, 239), (7, 240), (8, 227), (9, 241), (10, 242)], 11, true, 48, none, [.ty (.int .u64), .ty (.int .u64), .ty (.int .u32), .ty (.int .u8), .ty (.int .u8), .ty (.int .u8), .ty (.int .u8), .nilf, .nilp, .ty (.int .i32), .ty (.int .i32)], false⟩
noncomputable def r244 : Row := ⟨.struct [(0, 12), (1, 12), (2, 53), (3, 238), (4, 5), (5, 5), (6, 239), (7, 240), (8, 227), (9, 241), (10, 242)], 11, true, 48, none, [.ty (.int .u64), .ty (.int .u64), .ty (.int .u32), .ty (.int .u8), .ty (.int .u8), .ty (.int .u8), .ty (.int .u8), .nilf, .nilp, .ty (.int .i32), .ty (.int .i32)], false⟩
noncomputable def r245 : Row := ⟨.other, 1, false, 8, none, [.dead], false⟩
noncomputable def typeTree : Tree Row := (.node (.node (.node (.node (.node (.node (.node (.node .leaf 1 r1 .leaf) 2 r2 (.node .leaf 3 r3 .leaf)) 4 r4 (.node (.node .leaf 5 r5 .leaf) 6 r6 .leaf)) 7 r7 (.node (.node (.node .leaf 8 r8 .leaf) 9 r9 (.node .leaf 10 r10 .leaf)) 11 r11 (.node (.node .leaf 12 r12 .leaf) 15 r15 .leaf))) 16 r16 (.node (.node (.node (.node .leaf 17 r17 .leaf) 18 r18 (.node .leaf 19 r19 .leaf)) 20 r20 (.node (.node .leaf 21 r21 .leaf) 22 r22 .leaf)) 23 r23 (.node (.node (.node .leaf 24 r24 .leaf) 25 r25 (.node .leaf 26 r26 .leaf)) 27 r27 (.node (.node .leaf 28 r28 .leaf) 30 r30 .leaf)))) 31 r31 (.node (.node (.node (.node (.node .leaf 32 r32 .leaf) 33 r33 (.node .leaf 35 r35 .leaf)) 36 r36 (.node (.node .leaf 37 r37 .leaf) 38 r38 .leaf)) 40 r40 (.node (.node (.node .leaf 41 r41 .leaf) 43 r43 (.node .leaf 44 r44 .leaf)) 45 r45 (.node (.node .leaf 47 r47 .leaf) 48 r48 .leaf))) 49 r49 (.node (.node (.node (.node .leaf 50 r50 .leaf) 51 r51 (.node .leaf 52 r52 .leaf)) 53 r53 (.node (.node .leaf 54 r54 .leaf) 55 r55 .leaf)) 56 r56 (.node (.node (.node .leaf 57 r57 .leaf) 58 r58 .leaf) 59 r59 (.node (.node .leaf 60 r60 .leaf) 61 r61 .leaf))))) 62 r62 (.node (.node (.node (.node (.node (.node .leaf 63 r63 .leaf) 65 r65 (.node .leaf 66 r66 .leaf)) 67 r67 (.node (.node .leaf 68 r68 .leaf) 69 r69 .leaf)) 70 r70 (.node (.node (.node .leaf 71 r71 .leaf) 72 r72 (.node .leaf 73 r73 .leaf)) 74 r74 (.node (.node .leaf 75 r75 .leaf) 76 r76 .leaf))) 77 r77 (.node (.node (.node (.node .leaf 78 r78 .leaf) 79 r79 (.node .leaf 81 r81 .leaf)) 82 r82 (.node (.node .leaf 83 r83 .leaf) 84 r84 .leaf)) 85 r85 (.node (.node (.node .leaf 86 r86 .leaf) 87 r87 .leaf) 88 r88 (.node (.node .leaf 89 r89 .leaf) 90 r90 .leaf)))) 91 r91 (.node (.node (.node (.node (.node .leaf 93 r93 .leaf) 94 r94 (.node .leaf 95 r95 .leaf)) 96 r96 (.node (.node .leaf 98 r98 .leaf) 99 r99 .leaf)) 100 r100 (.node (.node (.node .leaf 101 r101 .leaf) 102 r102 (.node .leaf 103 r103 .leaf)) 104 r104 (.node (.node .leaf 105 r105 .leaf) 106 r106 .leaf))) 108 r108 (.node (.node (.node (.node .leaf 109 r109 .leaf) 110 r110 (.node .leaf 111 r111 .leaf)) 113 r113 (.node (.node .leaf 114 r114 .leaf) 115 r115 .leaf)) 117 r117 (.node (.node (.node .leaf 119 r119 .leaf) 120 r120 .leaf) 121 r121 (.node (.node .leaf 122 r122 .leaf) 123 r123 .leaf)))))) 124 r124 (.node (.node (.node (.node (.node (.node (.node .leaf 126 r126 .leaf) 127 r127 (.node .leaf 128 r128 .leaf)) 129 r129 (.node (.node .leaf 130 r130 .leaf) 132 r132 .leaf)) 133 r133 (.node (.node (.node .leaf 134 r134 .leaf) 135 r135 (.node .leaf 136 r136 .leaf)) 137 r137 (.node (.node .leaf 138 r138 .leaf) 139 r139 .leaf))) 140 r140 (.node (.node (.node (.node .leaf 141 r141 .leaf) 142 r142 (.node .leaf 143 r143 .leaf)) 144 r144 (.node (.node .leaf 145 r145 .leaf) 146 r146 .leaf)) 147 r147 (.node (.node (.node .leaf 148 r148 .leaf) 149 r149 .leaf) 150 r150 (.node (.node .leaf 151 r151 .leaf) 153 r153 .leaf)))) 154 r154 (.node (.node (.node (.node (.node .leaf 155 r155 .leaf) 156 r156 (.node .leaf 157 r157 .leaf)) 158 r158 (.node (.node .leaf 159 r159 .leaf) 160 r160 .leaf)) 162 r162 (.node (.node (.node .leaf 163 r163 .leaf) 164 r164 (.node .leaf 165 r165 .leaf)) 166 r166 (.node (.node .leaf 169 r169 .leaf) 170 r170 .leaf))) 171 r171 (.node (.node (.node (.node .leaf 172 r172 .leaf) 173 r173 (.node .leaf 174 r174 .leaf)) 175 r175 (.node (.node .leaf 177 r177 .leaf) 178 r178 .leaf)) 179 r179 (.node (.node (.node .leaf 180 r180 .leaf) 182 r182 .leaf) 184 r184 (.node (.node .leaf 186 r186 .leaf) 187 r187 .leaf))))) 188 r188 (.node (.node (.node (.node (.node (.node .leaf 189 r189 .leaf) 190 r190 (.node .leaf 191 r191 .leaf)) 192 r192 (.node (.node .leaf 194 r194 .leaf) 195 r195 .leaf)) 196 r196 (.node (.node (.node .leaf 197 r197 .leaf) 198 r198 (.node .leaf 199 r199 .leaf)) 200 r200 (.node (.node .leaf 201 r201 .leaf) 202 r202 .leaf))) 203 r203 (.node (.node (.node (.node .leaf 204 r204 .leaf) 205 r205 (.node .leaf 206 r206 .leaf)) 208 r208 (.node (.node .leaf 209 r209 .leaf) 210 r210 .leaf)) 211 r211 (.node (.node (.node .leaf 212 r212 .leaf) 213 r213 .leaf) 214 r214 (.node (.node .leaf 215 r215 .leaf) 216 r216 .leaf)))) 217 r217 (.node (.node (.node (.node (.node .leaf 218 r218 .leaf) 220 r220 (.node .leaf 222 r222 .leaf)) 223 r223 (.node (.node .leaf 224 r224 .leaf) 225 r225 .leaf)) 226 r226 (.node (.node (.node .leaf 227 r227 .leaf) 228 r228 (.node .leaf 229 r229 .leaf)) 230 r230 (.node (.node .leaf 231 r231 .leaf) 232 r232 .leaf))) 233 r233 (.node (.node (.node (.node .leaf 234 r234 .leaf) 235 r235 (.node .leaf 236 r236 .leaf)) 237 r237 (.node (.node .leaf 238 r238 .leaf) 239 r239 .leaf)) 240 r240 (.node (.node (.node .leaf 241 r241 .leaf) 242 r242 .leaf) 243 r243 (.node (.node .leaf 244 r244 .leaf) 245 r245 .leaf)))))))
theorem ckAll : typeTree.all (ckRow Tryz.prog) = true := by kernel_rfl
theorem tabs (t : Nat) (ti : TI) (h : tabOf typeTree t = some ti) : TIok Tryz.prog t ti := tabOf_ok ckAll t ti h
theorem mixed : Tryz.prog.follows .mixedOrders = true := by kernel_rfl
end Go.AM
namespace Go.AM
open Go.Proofs Go.RowKit

abbrev FileT : Ty := .prod .str .str

noncomputable def cloneE : Env (List SV × List Blk) := mkEnv (tabOf typeTree) (fun _ => none)

theorem cloneE_ok {G : Nat} {H0 : Array Obj} : EnvOk Tryz.prog G H0 cloneE := mkEnv_ok tabs (fun f ms F h => by cases h)

/-- The frame ahead of the last region. -/
noncomputable def cloneFr (xs : List (List UInt8 × List UInt8)) : List SV := [.pv (.sl FileT) xs, .dead, .dead, .dead, .dead, .dead, .dead, .dead]

noncomputable def cloneOps : Array Oper := match atBef Tryz.f30 3 with
  | .code (.region _ ops _) :: _ => ops
  | _ => #[]

theorem clone_run (xs : List (List UInt8 × List UInt8)) (h1 : xs.length ≤ LIM) (h2 : xs.length * 32 ≤ LIM) : xregion cloneE cloneOps false (cloneFr xs) [] (fun fr hp => some (fr, hp)) =
    some ([.pv (.sl FileT) xs, .dead, .sl 1 none, .dead, .dead, .sl 0 none, .pv (.sl FileT) xs, .sl 1 none], [.dead, .row FileT xs 27 true]) := by
  have key : xregion cloneE cloneOps false (cloneFr xs) [] (fun fr hp => some (fr, hp)) = bif decide (0 + xs.length ≤ LIM) && decide ((0 + xs.length) * 32 ≤ LIM) then
    some ([.pv (.sl FileT) xs, .dead, .sl 1 none, .dead, .dead, .sl 0 none, .pv (.sl FileT) xs, .sl 1 none], [.dead, .row FileT ([] ++ xs) 27 true]) else none := by kernel_rfl
  rw [key, Nat.zero_add, decide_eq_true h1, decide_eq_true h2]
  rfl

theorem Mem.dead {G : Nat} {H0 : Array Obj} {w : World} {I : Nat → Prop} {ρ : Nat → Option Info} (h : Mem G H0 [] w I ρ) : Mem G H0 [.dead] w I ρ := by
  have e : blkOf [.dead] = blkOf [] := by
    funext i
    cases i <;> simp [blkOf]
  exact ⟨fun i y hi => by have := h.dom i y hi; simp at this, by rw [e]; exact h.real⟩

set_option maxRecDepth 100000 in
theorem clone_ok {G : Nat} {H0 : Array Obj} (xs : List (List UInt8 × List UInt8)) (h1 : xs.length ≤ LIM) (h2 : xs.length * 32 ≤ LIM) (w : World) (I : Nat → Prop) (ρ : Nat → Option Info) (vs : Array Value) (hm : Mem G H0 [] w I ρ)
    (hv : FRs w I ρ [.pv (.sl FileT) xs] vs.toList) : Calls Tryz.prog 30 vs w fun e w' => ∃ x I' ρ', e = .returned x ∧ FR w' I' ρ' (.sl 1 none) x ∧ Mem G H0 [.dead, .row FileT xs 27 true] w' I' ρ' ∧ Keeps 0 ρ ρ' ∧
      Chain w I (Own ρ (blkOf [])) w' I' (Own ρ' (blkOf [.dead, .row FileT xs 27 true])) := by
  rw [FRs] at hv
  obtain ⟨v, r, hvs, hv, hr⟩ := hv
  simp only [FRs] at hr; subst hr
  have hvs' : vs = #[v] := by rw [← Array.toArray_toList (xs := vs), hvs]
  subst hvs'
  have hsl : ∃ p n c, v = .slice p n c ∧ (p = none → xs = [] ∧ n = 0) := by
    rw [FR, PR] at hv
    rcases hv with ⟨e, p, c, hp⟩ | ⟨b, o, c, css, _, hp, _⟩
    · simp at hp; exact ⟨p, 0, c, hp, fun _ => ⟨e, rfl⟩⟩
    · simp at hp; exact ⟨_, _, c, hp, fun h => by cases h⟩
  obtain ⟨p, n, c, rfl, hnil⟩ := hsl
  have hund : Tryz.prog.underlying 24 = some (.slice 27) := by kernel_rfl
  cases p with
  | none =>
    obtain ⟨rfl, rfl⟩ := hnil rfl
    have hq : ∀ W, (binOp .eql 24 (.slice none 0 c) (.slice none 0 0)).run Tryz.prog W = .ok (.bool true) W := fun W => Go.Lib.run_eql_slice_nil W 24 27 none 0 c 0 0 hund
    go_enter Tryz.func30, Tryz.ntmps30
    generalize hR3 : Code.region 3 _ _ = R3
    go_wp2
    go_ret
    obtain ⟨m1, m2, m3⟩ := (Mem.dead hm).addRow FileT 27
    have e0 : blkOf [.dead] = blkOf [] := by funext i; cases i <;> simp [blkOf]
    refine ⟨_, rfl, I, _, nil_row_fr, m1, fun i x hi => absurd hi (Nat.not_lt_zero _), ?_⟩
    exact { stay := fun b h => ⟨h, rfl⟩, size := Nat.le_refl _, frame := fun _ _ _ => rfl, own := fun b h => .inl (by have := m3 b h; rw [e0] at this; exact this), pubd := fun b h => .inl h, os := rfl, tape := rfl, output := rfl }
  | some a =>
    have hq : ∀ W, (binOp .eql 24 (.slice (some a) n c) (.slice none 0 0)).run Tryz.prog W = .ok (.bool false) W := fun W => Go.Lib.run_eql_slice_nil W 24 27 (some a) n c 0 0 hund
    go_enter Tryz.func30, Tryz.ntmps30
    generalize hR3 : Code.region 3 _ _ = R3
    go_wp2
    rename_i K hK
    have hops : Code.region 3 cloneOps false = R3 := hR3
    rw [← hops]
    obtain ⟨fr', hp', hk, hk', hle, hwp⟩ := region_ok (G := G) (H0 := H0) (q := 3) cloneE_ok mixed (clone_run xs h1 h2)
    simp only [Option.some.injEq, Prod.mk.injEq] at hk
    obtain ⟨rfl, rfl⟩ := hk
    refine hwp _ _ I ρ _ ⟨rfl, rfl, ?_, fun i y hi => hm.dom i y hi, hm.real⟩ ?_
    · intro t ht
      simp only [cloneFr, List.length_cons, List.length_nil] at ht
      match t, ht with
      | 0, _ => exact hv
      | 1, _ | 2, _ | 3, _ | 4, _ | 5, _ | 6, _ | 7, _ => simp only [cloneFr, List.getD_cons_succ, List.getD_cons_zero]; rw [FR]; trivial
    · intro a' w' I' ρ' hrel hpost
      refine hK _ _ ?_
      have hs2 := hrel.slots 2 (by simp)
      refine wp_ret (bodyPost_ret (results_tmp rfl _ _ _) hrel.defers ?_)
      exact ⟨_, I', ρ', rfl, hs2, ⟨hrel.dom, hrel.real⟩, fun i x hi => absurd hi (Nat.not_lt_zero _), hpost.chain⟩
end Go.AM
namespace Go.AM
open Go.Proofs Go.RowKit

/-- The table that strconv reads. -/
structure Laid (G : Nat) (H0 : Array Obj) : Prop where
  pow10 : ∀ w : World, (∀ b, b < G → w.heap[b]? = H0[b]?) → Lib.TabIs Tryz.prog w "internal/strconv.uint64pow10" .u64 Lib.pow10Tab

section
variable {R : Type} {G : Nat} {H0 : Array Obj}

def x41 (n : Int) (K0 : List UInt8 → Option R) : Option R := bif decide (-9223372036854775808 ≤ n) && decide (n ≤ 9223372036854775807) then K0 (Lib.itoa n) else none
def x41.pc (other : Con R) : Con R := pcon [.p (.dat (.int .i64))] [] (fun a _ K => x41 a.1 (fun r => K (.pv .str r) [])) other
theorem x41.ok (hl : Laid G H0) {other : Con R} (ho : FOk Tryz.prog G H0 41 other) : FOk Tryz.prog G H0 41 (x41.pc other) :=
  FOk.of_calls [.int .i64] rfl (fun a => decide (-9223372036854775808 ≤ a.1) && decide (a.1 ≤ 9223372036854775807)) (fun a => .pv .str (Lib.itoa a.1)) (fun a => .string ⟨(Lib.itoa a.1).toArray⟩) (fun a w I ρ => FR.str_mk)
    (fun a ha w I ρ hm => by
      simp only [Bool.and_eq_true, decide_eq_true_eq] at ha
      refine (Tryz.strconv_Itoa a.1 ha.1 ha.2 w (hl.pow10 w hm.real.glob)).mono ?_
      rintro e w' ⟨rfl, k, os, rfl⟩
      exact ⟨rfl, ⟨rfl, rfl, rfl, by simp [Sort.grow, World.drewN], fun k hk => by simp [Sort.grow, World.drewN, Array.getElem?_append, hk]⟩⟩) ho

def x116 (s : List UInt8) (K0 : Int → Bool → Option R) : Option R := bif decide (s.length ≤ 18) && (Lib.atoi s).isSome then K0 ((Lib.atoi s).getD 0) true else none
def x116.pc (other : Con R) : Con R := pcon [.p (.dat .str)] [] (fun a _ K => x116 a.1 (fun r q => K (.tup [.pv (.int .i64) r, .pv .err q]) [])) other
theorem x116.ok (hl : Laid G H0) {other : Con R} (ho : FOk Tryz.prog G H0 116 other) : FOk Tryz.prog G H0 116 (x116.pc other) :=
  FOk.of_calls [.str] rfl (fun a => decide (a.1.length ≤ 18) && (Lib.atoi a.1).isSome) (fun a => .tup [.pv (.int .i64) ((Lib.atoi a.1).getD 0), .pv .err true]) (fun a => .tuple #[.int .i64 ((Lib.atoi a.1).getD 0), .nilIface])
    (fun a w I ρ => by rw [FR]; exact ⟨_, rfl, ⟨_, _, rfl, FR.int_mk, ⟨_, _, rfl, by rw [FR, PR], rfl⟩⟩⟩)
    (fun a ha w I ρ hm => by
      simp only [Bool.and_eq_true, decide_eq_true_eq] at ha
      obtain ⟨h1, h2⟩ := ha
      obtain ⟨n, hn⟩ := Option.isSome_iff_exists.1 h2
      refine (Tryz.strconv_Atoi ⟨List.toArray a.1⟩ n (by simpa [ByteArray.size] using h1) (by simpa using hn) w).mono ?_
      rintro e w' ⟨rfl, t, rfl⟩
      exact ⟨by rw [hn]; rfl, Go.Joins.below_bytesWorld _ _ _ _ (Nat.le_refl _)⟩) ho

def x143 (s t : List UInt8) (K0 : Int → Option R) : Option R := bif decide (t.length = 1) then K0 (Lib.indexByte s (t.headD 0)) else none
def x143.pc (other : Con R) : Con R := pcon [.p (.dat .str), .p (.dat .str)] [] (fun a _ K => x143 a.1 a.2.1 (fun r => K (.pv (.int .i64) r) [])) other
theorem x143.ok (hl : Laid G H0) {other : Con R} (ho : FOk Tryz.prog G H0 143 other) : FOk Tryz.prog G H0 143 (x143.pc other) :=
  FOk.of_calls [.str, .str] rfl (fun a => decide (a.2.1.length = 1)) (fun a => .pv (.int .i64) (Lib.indexByte a.1 (a.2.1.headD 0))) (fun a => .int .i64 (Lib.indexByte a.1 (a.2.1.headD 0))) (fun a w I ρ => FR.int_mk)
    (fun a ha w I ρ hm => by
      obtain ⟨s, t, u⟩ := a
      simp only [decide_eq_true_eq] at ha
      match t, ha with
      | [c], _ =>
        refine (Tryz.stringslite_Index_one ⟨List.toArray s⟩ c w).mono ?_
        rintro e w' ⟨rfl, rfl⟩
        exact ⟨rfl, Below.refl _ _⟩) ho

def x106 (s t : List UInt8) (K0 : Int → Option R) : Option R := K0 (Lib.compareBytes s t)
def x106.pc (other : Con R) : Con R := pcon [.p (.dat .str), .p (.dat .str)] [] (fun a _ K => x106 a.1 a.2.1 (fun r => K (.pv (.int .i64) r) [])) other
theorem x106.ok (hl : Laid G H0) {other : Con R} (ho : FOk Tryz.prog G H0 106 other) : FOk Tryz.prog G H0 106 (x106.pc other) :=
  FOk.of_calls [.str, .str] rfl (fun a => true) (fun a => .pv (.int .i64) (Lib.compareBytes a.1 a.2.1)) (fun a => .int .i64 (Lib.compareBytes a.1 a.2.1)) (fun a w I ρ => FR.int_mk)
    (fun a ha w I ρ hm => by
      refine (Tryz.bytealg_CompareString ⟨List.toArray a.1⟩ ⟨List.toArray a.2.1⟩ w).mono ?_
      rintro e w' ⟨rfl, rfl⟩
      exact ⟨rfl, Below.refl _ _⟩) ho

def x33 (s : List UInt8) (K0 : Bool → Option R) : Option R := K0 (cleanF s)
def x33.pc (other : Con R) : Con R := pcon [.p (.dat .str)] [] (fun a _ K => x33 a.1 (fun r => K (.pv .bool r) [])) other
theorem x33.ok (hl : Laid G H0) {other : Con R} (ho : FOk Tryz.prog G H0 33 other) : FOk Tryz.prog G H0 33 (x33.pc other) :=
  FOk.of_calls [.str] rfl (fun a => true) (fun a => .pv .bool (cleanF a.1)) (fun a => .bool (cleanF a.1)) (fun a w I ρ => FR.bool_mk)
    (fun a ha w I ρ hm => clean_calls a.1 w) ho

def x30 (xs : List (List UInt8 × List UInt8)) (K0 : List (List UInt8 × List UInt8) → Option R) : Option R := bif decide (xs.length ≤ LIM) && decide (xs.length * 32 ≤ LIM) then K0 xs else none
def x30.pc (other : Con R) : Con R := pcon [.p (.dat (.sl (.prod .str .str)))] [] (fun a _ K => x30 a.1 (fun r => K (.sl 1 none) [.dead, .row (.prod .str .str) r 27 true])) other
theorem x30.ok (hl : Laid G H0) {other : Con R} (ho : FOk Tryz.prog G H0 30 other) : FOk Tryz.prog G H0 30 (x30.pc other) := by
  intro args hp K r hr
  unfold x30.pc pcon at hr
  split at hr
  · rename_i a ha
    split at hr
    · rename_i y hy
      cases hp' : decide (a.1.length ≤ LIM) && decide (a.1.length * 32 ≤ LIM) with
      | false => simp only [x30, hp', cond_false] at hr; cases hr
      | true =>
        simp only [x30, hp', cond_true] at hr
        simp only [Bool.and_eq_true, decide_eq_true_eq] at hp'
        refine ⟨_, _, hr, fun K' => by unfold x30.pc pcon; rw [ha, hy]; simp only [x30, decide_eq_true hp'.1, decide_eq_true hp'.2, Bool.and_self, cond_true], ?_, ?_⟩
        · have := getB_eq hy; subst this; simp [instB]
        · obtain rfl := getB_eq hy
          intro w I ρ vs hm hvs
          exact clone_ok a.1 hp'.1 hp'.2 w I ρ vs hm (getP_le ha w I ρ _ hvs)
    · rename_i hy
      obtain ⟨v', L, h1, h2, h3⟩ := ho args hp K r hr
      exact ⟨v', L, h1, fun K' => by unfold x30.pc pcon; rw [ha, hy]; exact h2 K', h3⟩
  · rename_i ha
    obtain ⟨v', L, h1, h2, h3⟩ := ho args hp K r hr
    exact ⟨v', L, h1, fun K' => by unfold x30.pc pcon; rw [ha]; exact h2 K', h3⟩
end

section
variable {R : Type} {G : Nat} {H0 : Array Obj}
def dd : Nat → List SV → List SV
  | 0, l => l
  | n + 1, l => .dead :: dd n l
def ud : Nat → List SV → List SV
  | 0, l => l
  | n + 1, l => .undef :: ud n l
noncomputable abbrev En (ct : Nat → Option (List Mode × Con R)) : Env R := mkEnv (tabOf typeTree) ct
/-- A walked function, segment by segment, is its step. -/
abbrev Seg {S : Type} (ct : Nat → Option (List Mode × Con R)) (C : Cuts) (n0 : Nat) (fn : Func) (pb : Option (List (Option Ty))) (todo : S → List Item) (fr : S → List SV) (hp : S → List Blk)
    (step : (SV → List Blk → Option R) → (S → Option R) → S → Option R) : Prop :=
  ∀ K call s, xgo (En ct) C n0 call (finish (En ct) fn n0 pb K) DEEP true (todo s) (fr s) (hp s) = step K (fun s => call (todo s) (fr s) (hp s)) s
abbrev CtOk (G : Nat) (H0 : Array Obj) (ct : Nat → Option (List Mode × Con R)) : Prop := ∀ f ms (F : Con R), ct f = some (ms, F) → Plain Tryz.prog f ∧ FOk Tryz.prog G H0 f F
theorem ctk {f : Nat} {a ms : List Mode} {F0 F : Con R} (h : some (a, F0) = some (ms, F)) (hp : Plain Tryz.prog f) (hk : FOk Tryz.prog G H0 f F0) : Plain Tryz.prog f ∧ FOk Tryz.prog G H0 f F := by
  simp only [Option.some.injEq, Prod.mk.injEq] at h
  obtain ⟨rfl, rfl⟩ := h
  exact ⟨hp, hk⟩
theorem seg_ok {S : Type} {f : Nat} {other : Con R} {fn : Func} {c : Code} {ps : List Pat} {bs : List BPat} {g : PL ps → BL bs → (SV → List Blk → Option R) → Option R} {todo : S → List Item} {fr : S → List SV} {hp : S → List Blk}
    {ct : Nat → Option (List Mode × Con R)} {C : Cuts} {n0 : Nat} {pb : Option (List (Option Ty))} {step : (SV → List Blk → Option R) → (S → Option R) → S → Option R}
    (hf : Tryz.prog.funcs[f]? = some fn) (hb : fn.body = some c) (ho : FOk Tryz.prog G H0 f other) (hE : CtOk G H0 ct) (m : Nat) (hs : Seg ct C n0 fn pb todo fr hp step) (s0 : PL ps → BL bs → S)
    (h : ∀ x y K, xfun (En ct) C fn pb m (instP ps x) (instB bs y) K = xrun (En ct) C n0 (finish (En ct) fn n0 pb K) m (todo (s0 x y)) (fr (s0 x y)) (hp (s0 x y)))
    (hg : ∀ x y K, iter (step K) m (s0 x y) = g x y K) : FOk Tryz.prog G H0 f (pcon ps bs g other) :=
  pcon_ok mixed hf hb ho (mkEnv_ok tabs hE) C pb m fun x y K => (h x y K).trans ((run_seg todo fr hp (step K) (hs K) m _).trans (hg x y K))
end
end Go.AM
