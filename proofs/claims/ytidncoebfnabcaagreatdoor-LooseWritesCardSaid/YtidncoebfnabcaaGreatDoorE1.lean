/- The abstract machine: its operations answer as the model does. -/
import Derived.Test.YtidncoebfnabcaaGreatDoorE0
import Derived.Laws.BytesString
import Derived.Laws.BytesArg
import Derived.Great.FillDense
import Derived.Laws.Tables
import Derived.DataBytes
import Derived.Orders
set_option linter.unusedSimpArgs false
set_option linter.unusedVariables false
namespace Go.AM
section
variable {R : Type} {P : Program} {G : Nat} {H0 : Array Obj} {E : Env R} {σ : Operand → SV} {look : Look} {p : Nat} {k : KOp R} {r : R}

theorem push_old {w w' : World} {o : Obj} (hh : w'.heap = w.heap.push o) {c : Nat} (h : c < w.heap.size) : w'.heap[c]? = w.heap[c]? := by
  rw [hh, Array.getElem?_push, if_neg (by omega)]

theorem birth_row {w w' : World} {I : Nat → Prop} {ρ : Nat → Option Info} (hre : Real G H0 w I ρ look) {look' : Look} {t : Ty} {xs : List t.D} {css : List (List Value)} {rest : List Value} {ety cap : Nat} {gr : Bool}
    (hx : All2 (PR w I t) xs css) (hc : xs.length ≤ cap) (hg : gr = false → cap = xs.length) (hrest : rest.length = (cap - xs.length) * t.size) {fz : Nat × Nat} (hfz : nofrz (cap * t.size) fz)
    (hp : ρ p = none) (hl : ∀ j, j ≠ p → look' j = look j) (hlp : look' p = .row t xs ety gr)
    (hh : w'.heap = w.heap.push (.cells (css.flatten ++ rest).toArray ety fz)) (ho : w'.os = w.os) (ht : w'.tape = w.tape) (hu : w'.output = w.output) :
    Post G H0 w I ρ look w' I (upd ρ p (some ⟨some w.heap.size, 0, xs.length, cap, t.size⟩)) look' ∧
      FR w' I (upd ρ p (some ⟨some w.heap.size, 0, xs.length, cap, t.size⟩)) (.sl p none) (.slice (some ⟨w.heap.size, 0, none⟩) xs.length cap) ∧
      Births ρ (upd ρ p (some ⟨some w.heap.size, 0, xs.length, cap, t.size⟩)) [(p, .row t xs ety gr)] := by
  have hst : Stay w I w' I := fun b hb => ⟨hb, push_old hh (hre.imm b hb)⟩
  have hlen : css.flatten.length = xs.length * t.size := by rw [flatten_len_const hx.lens, hx.len]
  have htot : xs.length * t.size + (cap - xs.length) * t.size = cap * t.size := by rw [← Nat.add_mul]; congr 1; omega
  have hsz : (css.flatten ++ rest).toArray.size = cap * t.size := by simp [hrest, ← htot]; rw [← hlen]; simp
  refine ⟨?_, ?_, fun i y hi => ?_⟩
  · refine hre.birth hp hl (by rw [hh]; simp) (fun c hc => push_old hh hc) (fun b hb => ?_) ?_ ho ht hu
    · simp at hb; subst hb; rw [hh]; simp
    · rw [hlp]
      refine ⟨_, upd_same _ _ _, rfl, rfl, hc, hg, by simp, fun b hb => ?_⟩
      simp at hb; subst hb
      refine ⟨_, fz, [], css, rest, by rw [hh, Array.getElem?_push, if_pos rfl], by rw [hsz]; exact hfz, by rw [hsz, Nat.zero_add], hx.mono fun _ _ h => h.mono hst, by simp, rfl⟩
  · rw [FR]; exact ⟨_, upd_same _ _ _, _, rfl, fun _ => ⟨_, rfl, by simp⟩⟩
  · by_cases e : i = p
    · subst e; exact .inr ⟨_, List.mem_singleton.2 rfl⟩
    · rw [upd_other _ _ e] at hi; exact .inl hi

def ElemsAt (P : Program) (G : Nat) (H0 : Array Obj) (look : Look) (t : Ty) (x : SV) (ys : List t.D) : Prop :=
  ∀ (w : World) (I : Nat → Prop) (ρ : Nat → Option Info) (v : Value), Real G H0 w I ρ look → FR w I ρ x v →
    ∃ css, All2 (PR w I t) ys css ∧ (Builtin.lenOf v).run P w = .ok ys.length w ∧
      ∀ w' : World, w'.heap = w.heap → ∀ n, n ≤ ys.length → (Builtin.firstCells t.size n v).run P w' = .ok (css.take n).flatten.toArray w'

theorem firstCells_cells {w : World} {b o len cap n sz : Nat} {css : List (List Value)} (hl : ∀ c ∈ css, c.length = sz) (hc : cellsAt w b o css.flatten) (hn : n ≤ css.length) :
    (Builtin.firstCells sz n (.slice (some ⟨b, o, none⟩) len cap)).run P w = .ok (css.take n).flatten.toArray w := by
  refine run_firstCells_some (P := P) w sz n ⟨b, o, none⟩ len cap _ ?_ fun j v hj => ?_
  · rw [flatten_len_const fun c hc => hl c (List.mem_of_mem_take hc)]; simp [Nat.min_eq_left hn]
  · rw [addr_add]
    refine hc j v ?_
    have : css.flatten = (css.take n).flatten ++ (css.drop n).flatten := by rw [← List.flatten_append, List.take_append_drop]
    rw [this, List.getElem?_append_left (List.getElem?_eq_some_iff.1 hj).1]; exact hj

theorem cellsAt.heap {w w' : World} {b o : Nat} {vs : List Value} (h : cellsAt w b o vs) (e : w'.heap = w.heap) : cellsAt w' b o vs := h.stay (by rw [e])

theorem row_cells {w : World} {I : Nat → Prop} {ρ : Nat → Option Info} {i : Nat} {t : Ty} {xs : List t.D} {ety : Nat} {gr : Bool} {x : Info} (hb : BR w I ρ i (.row t xs ety gr)) (hx : ρ i = some x)
    {e n : Nat} (hle : e + n ≤ x.len) : ∃ css, All2 (PR w I t) ((xs.drop e).take n) css ∧ ∀ b, x.blk = some b → cellsAt w b (x.off + e * x.esz) css.flatten := by
  obtain ⟨x', h1, h2, h3, h4, h5, h6, h7⟩ := hb
  rw [hx] at h1; cases h1
  cases hbk : x.blk with
  | none =>
    have : xs = [] := List.eq_nil_of_length_eq_zero (by have := h6 hbk; omega)
    subst this
    exact ⟨[], by simp [All2], fun b hb => by cases hb⟩
  | some b =>
    obtain ⟨arr, fz, pre, css, rest, a1, a2, a3, a4, a5, a6⟩ := h7 b hbk
    refine ⟨(css.drop e).take n, (a4.drop e).take n, fun b' hb' => ?_⟩
    cases hb'
    refine cellsAt_of_heap a1 fun j v hj => ?_
    have key : ∀ (css : List (List Value)) (e n : Nat), (∀ c ∈ css, c.length = t.size) → ∀ j v, ((css.drop e).take n).flatten[j]? = some v → css.flatten[e * t.size + j]? = some v := by
      intro css e n hc j v hj
      have e1 : css = css.take e ++ ((css.drop e).take n ++ (css.drop e).drop n) := by rw [List.take_append_drop, List.take_append_drop]
      by_cases hel : e ≤ css.length
      · have : (css.take e).flatten.length = e * t.size := by
          rw [flatten_len_const (fun c hc' => hc c (List.mem_of_mem_take hc'))]
          simp [Nat.min_eq_left hel]
        rw [e1, List.flatten_append, List.flatten_append, List.getElem?_append_right (by omega), this, Nat.add_sub_cancel_left,
          List.getElem?_append_left (List.getElem?_eq_some_iff.1 hj).1]
        exact hj
      · rw [List.drop_eq_nil_of_le (by omega)] at hj; simp at hj
    have := key css e n a4.lens j v hj
    rw [a5, h3, List.getElem?_append_right (by omega), a6, Nat.add_assoc, Nat.add_sub_cancel_left, List.getElem?_append_left (List.getElem?_eq_some_iff.1 this).1]
    exact this

theorem elems_slice {w : World} {I : Nat → Prop} {t : Ty} {ys : List t.D} {css : List (List Value)} (h : All2 (PR w I t) ys css) {v : Value}
    (hv : ∃ q c, v = .slice q ys.length c ∧ (ys ≠ [] → ∃ b o, q = some ⟨b, o, none⟩ ∧ cellsAt w b o css.flatten)) :
    (Builtin.lenOf v).run P w = .ok ys.length w ∧ ∀ w' : World, w'.heap = w.heap → ∀ n, n ≤ ys.length → (Builtin.firstCells t.size n v).run P w' = .ok (css.take n).flatten.toArray w' := by
  obtain ⟨q, c, rfl, hq⟩ := hv
  refine ⟨by simp [Builtin.lenOf], fun w' hw' n hn => ?_⟩
  by_cases hy : ys = []
  · subst hy
    have : n = 0 := by simpa using hn
    subst this
    cases q with
    | none => simp [Builtin.firstCells]
    | some a => simp [Builtin.firstCells, loadCells, loadCellsFrom]
  · obtain ⟨b, o, rfl, hc⟩ := hq hy
    exact firstCells_cells h.lens (hc.heap hw') (by rw [← h.len]; exact hn)

theorem bytes_all2 {w : World} {I : Nat → Prop} : ∀ (s : List UInt8), All2 (PR w I (.int .u8)) (s.map fun b => (b.toNat : Int)) (s.map fun b => [Value.int .u8 b.toNat])
  | [] => trivial
  | b :: s => ⟨by rw [PR], bytes_all2 s⟩

theorem flatten_map_one {α β : Type} (f : α → β) : ∀ s : List α, (s.map fun b => [f b]).flatten = s.map f
  | [] => rfl
  | b :: s => by simp [flatten_map_one f s]

theorem elems_inv (P : Program) (G : Nat) (H0 : Array Obj) {t : Ty} {x : SV} {ys : List t.D} {d : List Nat} (h : elemsOf t look x = some (ys, d)) :
    (∀ look' : Look, (∀ i, i ∈ d → look' i = look i) → elemsOf t look' x = some (ys, d)) ∧ ElemsAt P G H0 look t x ys := by
  unfold elemsOf at h
  split at h
  case h_1 =>
    simp at h; obtain ⟨rfl, rfl⟩ := h
    refine ⟨fun look' _ => by simp [elemsOf], fun w I ρ v hr hv => ?_⟩
    rw [FR] at hv; subst hv
    exact ⟨[], trivial, elems_slice (w := w) (I := I) (t := t) (ys := []) (css := []) trivial ⟨_, _, rfl, fun h => absurd rfl h⟩⟩
  case h_2 =>
    simp at h; obtain ⟨rfl, rfl⟩ := h
    refine ⟨fun look' _ => by simp [elemsOf], fun w I ρ v hr hv => ?_⟩
    rw [FR] at hv; obtain ⟨q, rfl⟩ := hv
    exact ⟨[], trivial, elems_slice (w := w) (I := I) (t := t) (ys := []) (css := []) trivial ⟨_, _, rfl, fun h => absurd rfl h⟩⟩
  case h_3 a xs =>
    obtain ⟨zs, hz, e⟩ := Option.map_eq_some_iff.1 h
    simp at e; obtain ⟨rfl, rfl⟩ := e
    obtain ⟨e1, e2⟩ := castTy_eq hz
    cases e1; simp at e2; subst e2
    refine ⟨fun look' _ => by simp [elemsOf, hz], fun w I ρ v hr hv => ?_⟩
    rw [FR, PR] at hv
    rcases hv with ⟨rfl, q, c, e⟩ | ⟨b, o, c, css, _, e, _, h1, h2⟩
    · simp at e; subst e
      exact ⟨[], trivial, elems_slice (w := w) (I := I) (t := t) (ys := []) (css := []) trivial ⟨_, _, rfl, fun h => absurd rfl h⟩⟩
    · simp at e; subst e
      exact ⟨css, h1, elems_slice h1 ⟨_, _, rfl, fun _ => ⟨b, o, rfl, h2⟩⟩⟩
  case h_4 s =>
    obtain ⟨zs, hz, e⟩ := Option.map_eq_some_iff.1 h
    simp at e; obtain ⟨rfl, rfl⟩ := e
    obtain ⟨e1, e2⟩ := castTy_eq hz
    cases e1; simp at e2; subst e2
    refine ⟨fun look' _ => by simp [elemsOf, hz], fun w I ρ v hr hv => ?_⟩
    rw [hv.str]
    refine ⟨_, bytes_all2 s, by simp [Builtin.lenOf, size_mk], fun w' hw' n hn => ?_⟩
    simp only [List.length_map] at hn
    rw [← List.map_take, flatten_map_one]
    simp only [Builtin.firstCells, Sem.run_pure]
    congr 1
    apply Array.ext'
    simp [ByteArray.data_extract]
  case h_5 i =>
    split at h
    case h_2 => cases h
    case h_1 a xs ety gr hl =>
    obtain ⟨zs, hz, e⟩ := Option.map_eq_some_iff.1 h
    simp at e; obtain ⟨rfl, rfl⟩ := e
    obtain ⟨e1, e2⟩ := castTy_eq hz
    cases e1; simp at e2; subst e2
    refine ⟨fun look' hlk => by simp [elemsOf, hlk i (by simp), hl, hz], fun w I ρ v hr hv => ?_⟩
    rw [FR] at hv; obtain ⟨y, hy, hs⟩ := hv
    have hb := hr.blk i; rw [hl] at hb
    obtain ⟨css, c1, c2⟩ := row_cells hb hy (e := 0) (n := y.len) (by omega)
    obtain ⟨y', g1, g2, g3, g4, _⟩ := hb
    rw [hy] at g1; cases g1
    rw [List.drop_zero, List.take_of_length_le (by omega)] at c1
    obtain ⟨q, rfl, hq⟩ := hs
    refine ⟨css, c1, elems_slice c1 ⟨q, _, by rw [g2], fun hne => ?_⟩⟩
    have : 0 < y.len := by rw [g2]; exact List.length_pos_iff.2 hne
    obtain ⟨b, h1, rfl⟩ := hq (by omega)
    exact ⟨b, _, rfl, c2 b h1⟩
  case h_6 i e n =>
    split at h
    case h_2 => cases h
    case h_1 a xs ety gr hl =>
    obtain ⟨zs, hz, e'⟩ := Option.map_eq_some_iff.1 h
    simp at e'; obtain ⟨rfl, rfl⟩ := e'
    obtain ⟨e1, e2⟩ := castTy_eq hz
    cases e1; simp at e2; subst e2
    refine ⟨fun look' hlk => by simp [elemsOf, hlk i (by simp), hl, hz], fun w I ρ v hr hv => ?_⟩
    rw [FR] at hv; obtain ⟨y, hy, hle, hs⟩ := hv
    have hb := hr.blk i; rw [hl] at hb
    obtain ⟨css, c1, c2⟩ := row_cells hb hy hle
    obtain ⟨y', g1, g2, g3, g4, _⟩ := hb
    rw [hy] at g1; cases g1
    obtain ⟨q, rfl, hq⟩ := hs
    have hn := c1.len
    have hn2 := List.length_take (i := n) (l := List.drop e xs)
    rw [List.length_drop] at hn2
    have hn : (List.take n (List.drop e xs)).length = n := by omega
    refine ⟨css, c1, elems_slice c1 ⟨q, _, by rw [hn], fun hne => ?_⟩⟩
    have := List.length_pos_iff.2 hne
    obtain ⟨b, h1, rfl⟩ := hq (by omega)
    exact ⟨b, _, rfl, c2 b h1⟩
  case h_7 i c n m =>
    split at h
    case h_2 => cases h
    case h_1 es ety hl =>
    split at h
    case h_2 => cases h
    case h_1 n' a xs rs hsk =>
    split at h
    case isFalse => cases h
    case isTrue hnm =>
    obtain ⟨zs, hz, e⟩ := Option.map_eq_some_iff.1 h
    simp at e; obtain ⟨rfl, rfl⟩ := e
    obtain ⟨e1, e2⟩ := castTy_eq hz
    cases e1; simp at e2; subst e2
    refine ⟨fun look' hlk => by simp only [elemsOf, hlk i (by simp), hl, hsk, hnm, and_self, if_true, hz, Option.map_some], fun w I ρ v hr hv => ?_⟩
    rw [FR] at hv; obtain ⟨y, b, h1, h2, rfl⟩ := hv
    have hb := hr.blk i; rw [hl] at hb
    obtain ⟨y', b', arr, fz, g1, g2, g3, g4, g5, g6⟩ := hb.box_inv
    rw [h1] at g1; cases g1; rw [h2] at g2; cases g2
    obtain ⟨h7, h8⟩ := g5.skip hsk
    obtain ⟨l, r', f1, f2, f3⟩ := ERs.cons.1 h8
    have f2' := CR.pv.1 f2
    rw [PR] at f2'
    obtain ⟨hn, css, k1, rfl⟩ := f2'
    refine ⟨css, k1, elems_slice k1 ⟨_, _, by rw [← hnm.1, ← hn], fun _ => ⟨b, c, rfl, ?_⟩⟩⟩
    have := cells_drop g6 c
    rw [f1, Nat.zero_add] at this
    intro j v hj
    exact this j v (by rw [List.getElem?_append_left (List.getElem?_eq_some_iff.1 hj).1]; exact hj)
  case h_8 => cases h
end
end Go.AM
set_option linter.unusedSimpArgs false
set_option linter.unusedVariables false
namespace Go.AM
section
variable {R : Type} {P : Program} {G : Nat} {H0 : Array Obj} {E : Env R} {σ : Operand → SV} {look : Look} {p : Nat} {k : KOp R} {r : R}

def isSeq (d : TypeDesc) : Prop := d = .string ∨ ∃ e, d = .slice e

set_option maxHeartbeats 1000000 in
theorem run_append_in {st xt e : Nat} {te : TI} {dx : TypeDesc} (hst : P.underlying st = some (.slice e)) (hxt : P.underlying xt = some dx) (hdx : isSeq dx) (hte : TIok P e te)
    {w : World} {base : Option Addr} {sLen sCap n : Nat} {x : Value} {news : List Value} (ty : TypeId) (hl : (Builtin.lenOf x).run P w = .ok n w)
    (hf : (Builtin.firstCells te.size n x).run P w = .ok news.toArray w) (hroom : sLen + n ≤ sCap) :
    (Builtin.append_ #[st, xt] ty #[.slice base sLen sCap, x]).run P w =
      match base with
      | some a => ((storeCells (a.add (sLen * te.size)) news).run P w).andThen fun _ w' => .ok (.slice base (sLen + n) sCap) w'
      | none => .ok (.slice base (sLen + n) sCap) w := by
  rcases hdx with rfl | ⟨e', rfl⟩ <;> cases base <;> simp [Builtin.append_, underlying, hst, hxt, hte.run_sizeOf, hl, hf, hroom]

set_option maxHeartbeats 1000000 in
theorem run_append_out {st xt e : Nat} {te : TI} {dx : TypeDesc} (hst : P.underlying st = some (.slice e)) (hxt : P.underlying xt = some dx) (hdx : isSeq dx) (hte : TIok P e te)
    {w : World} {base : Option Addr} {sLen sCap n : Nat} {x : Value} {olds news : List Value} (ty : TypeId) (hl : (Builtin.lenOf x).run P w = .ok n w)
    (hf : (Builtin.firstCells te.size n x).run P w.drew = .ok news.toArray w.drew) (hfo : (Builtin.firstCells te.size sLen (.slice base sLen sCap)).run P w.drew = .ok olds.toArray w.drew)
    (hroom : ¬ sLen + n ≤ sCap) (hlim : sLen + n ≤ LIM) (hb : (sLen + n) * te.bytes ≤ LIM) :
    ∃ cap rest w', sLen + n ≤ cap ∧ rest.length = (cap - (sLen + n)) * te.size ∧ w'.heap = w.heap.push (.cells (olds ++ news ++ rest).toArray e) ∧ w'.os = w.os ∧ w'.tape = w.tape ∧ w'.output = w.output ∧
      (Builtin.append_ #[st, xt] ty #[.slice base sLen sCap, x]).run P w = .ok (.slice (some ⟨w.heap.size, 0, none⟩) (sLen + n) cap) w' := by
  obtain ⟨i, z, i1, i2, i3, i4, i5, i6, i7, i8⟩ := hte.info
  have h63 : ¬ (9223372036854775807 < (sLen : Int) + (n : Int)) := by unfold LIM at hlim; omega
  have hfit : ¬ (281474976710656 < Builtin.nextslicecap (sLen + n) sCap * te.bytes) := by
    have := growslice_fits (need := sLen + n) (old := sCap) (bytes := te.bytes) (by omega) (by unfold LIM at hb; omega)
    omega
  refine ⟨grownCap w (sLen + n) sCap e, (Builtin.zeroCells z.cells (grownCap w (sLen + n) sCap e - (sLen + n))).toList, w.drew.alloc (.cells (olds ++ news ++ (Builtin.zeroCells z.cells (grownCap w (sLen + n) sCap e - (sLen + n))).toList).toArray e),
    grownCap_ge w _ _ _, by rw [Array.length_toList, size_zeroCells, i8], rfl, rfl, rfl, rfl, ?_⟩
  have harr : (olds ++ news ++ (Builtin.zeroCells z.cells (grownCap w (sLen + n) sCap e - (sLen + n))).toList).toArray = olds.toArray ++ news.toArray ++ Builtin.zeroCells z.cells (grownCap w (sLen + n) sCap e - (sLen + n)) := by
    apply Array.ext'; simp [List.append_assoc]
  rw [harr]
  rcases hdx with rfl | ⟨e', rfl⟩ <;>
    simp [Builtin.append_, underlying, hst, hxt, hte.run_sizeOf, hl, hroom, typeInfo, zeroValue, i1, i3, i4, h63, hfit, Question.forced, hf, hfo, newRow, grownCap] <;>
    (congr 2; apply Array.ext'; simp [List.append_assoc])

theorem seqKind_inv (hE : TabOk P E) {xt : Nat} (h : ¬ seqKind (E.tab xt) = false) : ∃ d, P.underlying xt = some d ∧ isSeq d := by
  unfold seqKind at h
  split at h
  · rename_i ht
    obtain ⟨d, d1, d2, _⟩ := (hE.tab _ _ ht).desc
    cases d2; exact ⟨_, d1, .inr ⟨_, rfl⟩⟩
  · rename_i ht
    obtain ⟨d, d1, d2, _⟩ := (hE.tab _ _ ht).desc
    cases d2; exact ⟨_, d1, .inl rfl⟩
  · simp at h

theorem bif2_some {a b : Bool} {x : Option R} {r : R} (h : (bif a && b then x else none) = some r) : a = true ∧ b = true ∧ x = some r := by
  obtain ⟨h1, h2⟩ := bif_some h
  simp at h1; exact ⟨h1.1, h1.2, h2⟩

theorem take_all2 {w : World} {I : Nat → Prop} {t : Ty} {ys : List t.D} {css : List (List Value)} (h : All2 (PR w I t) ys css) : css.take ys.length = css := List.take_of_length_le (by rw [h.len]; exact Nat.le_refl _)

theorem arr_two {α : Type} {a : Array α} {x y : α} (h : a.toList = [x, y]) : a = #[x, y] := by
  cases a; simp at h; simp [h]

theorem map_two {α β : Type} {f : α → β} {l : List α} {x y : β} (h : l.map f = [x, y]) : ∃ a b, l = [a, b] ∧ f a = x ∧ f b = y := by
  match l, h with
  | [a, b], h => simp at h; exact ⟨a, b, rfl, h.1, h.2⟩

theorem all2_rest {w : World} {I : Nat → Prop} {t : Ty} {xs : List t.D} {css : List (List Value)} (h : All2 (PR w I t) xs css) : css.flatten.length = xs.length * t.size := by
  rw [flatten_len_const h.lens, h.len]

theorem append_nil_post (hE : TabOk P E) {st xt e : Nat} {te : TI} {t : Ty} {dx : TypeDesc} (hst : P.underlying st = some (.slice e)) (hxt : P.underlying xt = some dx) (hdx : isSeq dx) (hte : TIok P e te) (hsz : t.size = te.size)
    {w : World} {I : Nat → Prop} {ρ : Nat → Option Info} (hre : Real G H0 w I ρ look) {ys : List t.D} {x : Value} {css : List (List Value)} (h1 : All2 (PR w I t) ys css) (h2 : (Builtin.lenOf x).run P w = .ok ys.length w)
    (h3 : ∀ w' : World, w'.heap = w.heap → ∀ n, n ≤ ys.length → (Builtin.firstCells t.size n x).run P w' = .ok (css.take n).flatten.toArray w') (q : Option Addr) (ty : TypeId)
    (hl1 : ys.length ≤ LIM) (hl2 : ys.length * te.bytes ≤ LIM) (hp : look p = .dead ∧ ρ p = none) :
    ∃ v w' I' ρ', (Builtin.append_ #[st, xt] ty #[.slice q 0 0, x]).run P w = .ok v w' ∧ OpPost G H0 w I ρ look (.sl p none) [(p, .row t ys e true)] v w' I' ρ' := by
  have hf := h3 w rfl ys.length (Nat.le_refl _)
  rw [take_all2 h1, hsz] at hf
  by_cases hy : ys.length = 0
  · have hnil : ys = [] := List.eq_nil_of_length_eq_zero hy
    subst hnil
    have hcss : css = [] := by cases css with
      | nil => rfl
      | cons => simp [All2] at h1
    subst hcss
    have hrun := run_append_in (P := P) (sLen := 0) (sCap := 0) (base := q) hst hxt hdx hte ty h2 (news := []) (by simpa using hf) (by simp)
    refine ⟨.slice q 0 0, w, I, upd ρ p (some ⟨none, 0, 0, 0, t.size⟩), ?_, ?_, ?_, fun i y hi => ?_⟩
    · rw [hrun]; cases q <;> simp [storeCells]
    · refine hre.birth hp.2 (fun j hj => by rw [upd_applyL, upd_other _ _ hj]) (Nat.le_refl _) (fun c hc => rfl) (by simp) ?_ rfl rfl rfl
      rw [upd_applyL, upd_same]
      exact ⟨_, upd_same _ _ _, rfl, rfl, by simp, by simp, by simp, by simp⟩
    · rw [FR]; exact ⟨_, upd_same _ _ _, q, rfl, by simp⟩
    · by_cases e' : i = p
      · subst e'; exact .inr ⟨_, List.mem_singleton.2 rfl⟩
      · rw [upd_other _ _ e'] at hi; exact .inl hi
  · have hfd := h3 w.drew rfl ys.length (Nat.le_refl _)
    rw [take_all2 h1, hsz] at hfd
    have hfo : (Builtin.firstCells te.size 0 (.slice q 0 0)).run P w.drew = .ok ([] : List Value).toArray w.drew := by
      cases q <;> simp [Builtin.firstCells, loadCells, loadCellsFrom]
    obtain ⟨cap, rest, w', r1, r2, r3, r4, r5, r6, r7⟩ := run_append_out hst hxt hdx hte ty h2 hfd hfo (by omega) (by omega) (by rw [Nat.zero_add]; exact hl2)
    rw [Nat.zero_add] at r1 r2 r7
    rw [List.nil_append] at r3
    obtain ⟨b1, b2, b3⟩ := birth_row (gr := true) (w' := w') hre (look' := applyL look [(p, .row t ys e true)]) h1 r1 (fun h => by cases h) (by rw [hsz]; exact r2) (fz := (0, 0)) (fun o _ h => absurd h.2 (Nat.not_lt_zero _)) hp.2
      (fun j hj => by rw [upd_applyL, upd_other _ _ hj]) (by rw [upd_applyL, upd_same]) r3 r4 r5 r6
    exact ⟨_, w', I, _, r7, b1, b2, b3⟩

theorem upd_two (look : Look) (i p : Nat) (B : Blk) : applyL look [(i, .dead), (p, B)] = upd (upd look i .dead) p B := rfl

theorem append_row_post (hE : TabOk P E) {st xt e : Nat} {te : TI} {t : Ty} {dx : TypeDesc} (hst : P.underlying st = some (.slice e)) (hxt : P.underlying xt = some dx) (hdx : isSeq dx) (hte : TIok P e te) (hsz : t.size = te.size)
    {w : World} {I : Nat → Prop} {ρ : Nat → Option Info} (hre : Real G H0 w I ρ look) {ys : List t.D} {x : Value} {css : List (List Value)} (h1 : All2 (PR w I t) ys css) (h2 : (Builtin.lenOf x).run P w = .ok ys.length w)
    (h3 : ∀ w' : World, w'.heap = w.heap → ∀ n, n ≤ ys.length → (Builtin.firstCells t.size n x).run P w' = .ok (css.take n).flatten.toArray w') (ty : TypeId)
    {i off n : Nat} {zs : List t.D} {ety : Nat} {gr : Bool} {y : Info} (hl : look i = .row t zs ety gr) (hy : ρ i = some y) (hle : off + n ≤ y.len) {s : Value} (hs : slV y.blk y.off off n y.esz y.cap s)
    (hl1 : n + ys.length ≤ LIM) (hl2 : (n + ys.length) * te.bytes ≤ LIM) (hp : look p = .dead ∧ ρ p = none) (hety : ety = e) :
    ∃ v w' I' ρ', (Builtin.append_ #[st, xt] ty #[s, x]).run P w = .ok v w' ∧ OpPost G H0 w I ρ look (.sl p none) [(i, .dead), (p, .row t ((zs.drop off).take n ++ ys) e true)] v w' I' ρ' := by
  have hf := h3 w rfl ys.length (Nat.le_refl _)
  rw [take_all2 h1, hsz] at hf
  have hne : i ≠ p := fun e' => by subst e'; rw [hp.2] at hy; cases hy
  have hb := hre.blk i; rw [hl] at hb
  obtain ⟨c0, c01, c02⟩ := row_cells hb hy hle
  obtain ⟨y', g1, g2, g3, g4, g5, g6, g7⟩ := hb
  rw [hy] at g1; cases g1
  have hzl : ((zs.drop off).take n).length = n := by
    rw [List.length_take, List.length_drop]; omega
  obtain ⟨q, rfl, hq⟩ := hs
  have hbirths : ∀ (z : Info) (d : Delta), (∃ B, (p, B) ∈ d) → Births ρ (upd ρ p (some z)) d := fun z d hd j u hj => by
    by_cases e' : j = p
    · subst e'; exact .inr hd
    · rw [upd_other _ _ e'] at hj; exact .inl hj
  by_cases hroom : n + ys.length ≤ y.cap - off
  · have hrun := run_append_in (P := P) (sLen := n) (sCap := y.cap - off) (base := q) hst hxt hdx hte ty h2 hf hroom
    by_cases hc0 : y.cap - off = 0
    · -- no memory at all
      have hn0 : n = 0 := by omega
      have hy0 : ys = [] := List.eq_nil_of_length_eq_zero (by omega)
      subst hn0; subst hy0
      have hcss : css = [] := by cases css with
        | nil => rfl
        | cons => simp [All2] at h1
      subst hcss
      have hfor : Post G H0 w I ρ look w I ρ (upd look i .dead) := hre.forget fun j => by
        by_cases e' : j = i
        · subst e'; exact .inr (upd_same _ _ _)
        · exact .inl (upd_other _ _ e')
      refine ⟨.slice q 0 0, w, I, upd ρ p (some ⟨none, 0, 0, 0, t.size⟩), ?_, ?_, ?_, hbirths _ _ ⟨_, List.mem_cons_of_mem _ (List.mem_singleton.2 rfl)⟩⟩
      · rw [hrun, hc0]; cases q <;> simp [storeCells]
      · refine hfor.trans (hfor.real.birth hp.2 (fun j hj => by rw [upd_two, upd_other _ _ hj]) (Nat.le_refl _) (fun c hc => rfl) (by simp) ?_ rfl rfl rfl)
        rw [upd_two, upd_same]
        exact ⟨_, upd_same _ _ _, by simp, rfl, by simp, by simp, by simp, by simp⟩
      · rw [FR]; exact ⟨_, upd_same _ _ _, q, rfl, by simp⟩
    · obtain ⟨b, hb1, rfl⟩ := hq (by omega)
      obtain ⟨arr, fz, pre, cs, rest, a1, a2, a3, a4, a5, a6⟩ := g7 b hb1
      have hcl := all2_rest a4
      have hal : arr.toList.length = y.off + (zs.length * t.size + rest.length) := by rw [a5]; simp [a6, hcl]
      have hcssl := all2_rest h1
      have hmul1 : (off + n) * t.size + ys.length * t.size ≤ y.cap * t.size := by
        rw [← Nat.add_mul]; exact Nat.mul_le_mul_right _ (by omega)
      have hmul2 : off * t.size + n * t.size = (off + n) * t.size := by rw [Nat.add_mul]
      obtain ⟨w', arr', r1, r2, r3, r4⟩ := run_storeCells (P := P) (b := b) (o := y.off + off * y.esz + n * te.size) css.flatten 0 w arr a1 a2 (by rw [g3, ← hsz]; omega)
        (fun v hv => by obtain ⟨c, hc, hv⟩ := List.mem_flatten.1 hv; exact All2.allr (p := fun c => ∀ v ∈ c, v.oneCell' = true) (fun _ _ h => h.oneCell) h1 c hc v hv)
      have hsz' : arr'.size = arr.size := by
        have := congrArg List.length r4
        simp only [Array.length_toList, List.length_append, List.length_take, List.length_drop] at this
        rw [g3, ← hsz] at this
        simp only [Array.length_toList] at hal
        omega
      have hlive : look i ≠ .dead := by rw [hl]; simp
      have hob := hre.own b ⟨i, y, hlive, hy, hb1⟩
      have hst' : Stay w I w' I := fun c hc => ⟨hc, r2.other c fun e' => hob.2.1 (e' ▸ hc)⟩
      refine ⟨.slice (some ⟨b, y.off + off * y.esz, none⟩) (n + ys.length) (y.cap - off), w', I, upd ρ p (some ⟨some b, y.off + off * t.size, n + ys.length, y.cap - off, t.size⟩), ?_, ?_, ?_, hbirths _ _ ⟨_, List.mem_cons_of_mem _ (List.mem_singleton.2 rfl)⟩⟩
      · rw [hrun]
        simp only [addr_add, r1, Result.andThen_ok]
      · refine hre.move (i := i) (p := p) hlive hy hb1 hp.2 rfl (by rw [upd_two, upd_other _ _ hne, upd_same]) (fun j h1 h2 => by rw [upd_two, upd_other _ _ h2, upd_other _ _ h1]) r2.size r2.other ?_ r2.os r2.tape r2.output
        rw [upd_two, upd_same]
        refine ⟨_, upd_same _ _ _, by rw [List.length_append, hzl], rfl, by rw [List.length_append, hzl]; exact hroom, by simp, by simp, fun b' hb' => ?_⟩
        simp at hb'; subst hb'
        have hc0l := all2_rest c01
        rw [hzl] at hc0l
        -- the cells of the block: what was ahead, the window, the new ones, what is left
        have hal2 : arr.toList.length = arr.size := by simp
        have hpre : (arr.toList.take (y.off + off * t.size)).length = y.off + off * t.size := by
          rw [List.length_take]; omega
        refine ⟨arr', fz, arr.toList.take (y.off + off * t.size), c0 ++ css, arr.toList.drop (y.off + off * t.size + n * t.size + css.flatten.length), by rw [r3, hety], by rw [hsz']; exact a2, ?_, ?_, ?_, hpre⟩
        · rw [hsz', a3]
          have : off * t.size + (y.cap - off) * t.size = y.cap * t.size := by rw [← Nat.add_mul]; congr 1; omega
          show y.off + y.cap * t.size = y.off + off * t.size + (y.cap - off) * t.size
          omega
        · exact (c01.append h1).mono fun _ _ h => h.mono hst'
        · rw [r4, g3, ← hsz, Nat.add_zero]
          have e1 : arr.toList.take (y.off + off * t.size + n * t.size) = arr.toList.take (y.off + off * t.size) ++ c0.flatten := by
            have hcw := c02 b hb1
            apply List.ext_getElem?
            intro j
            by_cases hj : j < y.off + off * t.size
            · rw [List.getElem?_append_left (by omega), List.getElem?_take, List.getElem?_take, if_pos (by omega), if_pos hj]
            · rw [List.getElem?_append_right (by omega), hpre, List.getElem?_take]
              by_cases hj2 : j < y.off + off * t.size + n * t.size
              · rw [if_pos hj2]
                have hlt : j - (y.off + off * t.size) < c0.flatten.length := by omega
                have := hcw _ _ (List.getElem?_eq_getElem hlt)
                rw [cell_of_heap a1, g3] at this
                rw [List.getElem?_eq_getElem hlt, ← this, Array.getElem?_toList]
                congr 1; omega
              · rw [if_neg hj2, List.getElem?_eq_none (by omega)]
          rw [e1, List.flatten_append]
          simp [List.append_assoc]
      · rw [FR]; exact ⟨_, upd_same _ _ _, _, rfl, fun _ => ⟨b, rfl, by simp [g3]⟩⟩
  · have hfd := h3 w.drew rfl ys.length (Nat.le_refl _)
    rw [take_all2 h1, hsz] at hfd
    obtain ⟨_, ho2⟩ := elems_slice (P := P) c01 (v := .slice q n (y.cap - off)) ⟨q, y.cap - off, by rw [hzl], fun hne => by
      have := List.length_pos_iff.2 hne
      obtain ⟨b, hb1, rfl⟩ := hq (by omega)
      exact ⟨b, _, rfl, c02 b hb1⟩⟩
    have hfo := ho2 w.drew rfl n (by rw [hzl]; exact Nat.le_refl _)
    have htk : c0.take n = c0 := List.take_of_length_le (by rw [← c01.len, hzl]; exact Nat.le_refl _)
    rw [htk, hsz] at hfo
    obtain ⟨cap, rest, w', r1, r2, r3, r4, r5, r6, r7⟩ := run_append_out hst hxt hdx hte ty h2 hfd hfo hroom hl1 hl2
    have hfor : Post G H0 w I ρ look w I ρ (upd look i .dead) := hre.forget fun j => by
      by_cases e' : j = i
      · subst e'; exact .inr (upd_same _ _ _)
      · exact .inl (upd_other _ _ e')
    have hlen : ((zs.drop off).take n ++ ys).length = n + ys.length := by rw [List.length_append, hzl]
    obtain ⟨b1, b2, b3⟩ := birth_row (gr := true) (w' := w') hfor.real (look' := applyL look [(i, .dead), (p, .row t ((zs.drop off).take n ++ ys) e true)]) (c01.append h1) (by rw [hlen]; exact r1) (by simp) (by rw [hlen, hsz]; exact r2)
      (fz := (0, 0)) (fun o _ h => absurd h.2 (Nat.not_lt_zero _)) hp.2 (fun j hj => by rw [upd_two, upd_other _ _ hj]) (by rw [upd_two, upd_same]) (by rw [List.flatten_append]; exact r3) r4 r5 r6
    rw [hlen] at b1 b2 b3
    exact ⟨_, w', I, _, r7, hfor.trans b1, b2, hbirths _ _ ⟨_, List.mem_cons_of_mem _ (List.mem_singleton.2 rfl)⟩⟩

theorem append_ok (hE : TabOk P E) {xs : Array Operand} {ats : Array TypeId} (h : xop E (.call { callee := .builtin .append, args := xs, argTypes := ats }) σ look p k = some r) :
    OpOk P G H0 E (.call { callee := .builtin .append, args := xs, argTypes := ats }) σ look p k r := by
  simp only [xop, xbuiltin] at h
  split at h
  case h_2 => cases h
  case h_1 s x st xt hargs hats =>
  obtain ⟨os, ox, hxs, rfl, rfl⟩ := map_two hargs
  have hxs' := arr_two hxs
  have hats' := arr_two hats
  subst hxs'; subst hats'
  have ha : ∀ σ' : Operand → SV, (∀ z, z ∈ (Op.call { callee := .builtin .append, args := #[os, ox], argTypes := #[st, xt] }).operands.toList → σ' z = σ z) → σ' os = σ os ∧ σ' ox = σ ox :=
    fun σ' hσ => ⟨hσ os (by simp [Op.operands, Call.operands]), hσ ox (by simp [Op.operands, Call.operands])⟩
  unfold xappend at h
  split at h
  case isTrue => cases h
  case isFalse hsk =>
  obtain ⟨dx, dx1, dx2⟩ := seqKind_inv hE hsk
  have hsk' : seqKind (E.tab xt) = true := by simpa using hsk
  split at h
  case h_2 => cases h
  case h_1 e sz ag by_ ty_ zr eq ht =>
  split at h
  case h_2 => cases h
  case h_1 kd sz2 ag2 bytes t zr2 eq2 hte =>
  obtain ⟨d, d1, d2, d3⟩ := (hE.tab _ _ ht).desc
  cases d2
  have hto := hE.tab _ _ hte
  have hts : t.size = sz2 := (hto.ty t rfl).1
  split at h
  case h_2 => cases h
  case h_1 ys dy hys =>
  obtain ⟨hloc, hel⟩ := elems_inv P G H0 hys
  have hexec : ∀ (o : Oper) (a : Act) (w w' : World) (v : Value), o.op = .call { callee := .builtin .append, args := #[os, ox], argTypes := #[st, xt] } →
      (Builtin.append_ #[st, xt] o.type #[a.eval os, a.eval ox]).run P w = .ok v w' → (execOp a.eval o).run P w = .ok (.value v) w' := by
    intro o a w w' v ho hrun
    simp [execOp, ho, resolve, invoke, builtin, hrun]
  split at h
  case h_1 hs =>
    obtain ⟨b1, b2, h⟩ := bif2_some h
    refine ⟨_, _, _, h, fun σ' look' hσ hlk k' => ?_, Sound.of fun o a w I ρ ho hre hr hf => ?_⟩
    · obtain ⟨e1, e2⟩ := ha σ' hσ
      simp only [xop, xbuiltin, List.map_cons, List.map_nil, e1, e2, xappend, hsk', Bool.true_eq_false, if_false, ht, hte, hloc look' hlk, hs, b1, b2, Bool.and_self, cond_true]
    · obtain ⟨css, h1, h2, h3⟩ := hel w I ρ _ hre (hr ox)
      have hv := hr os; rw [hs, FR] at hv
      obtain ⟨v, w', I', ρ', r1, r2⟩ := append_nil_post hE d1 dx1 dx2 hto hts hre h1 h2 h3 none o.type (by simpa using b1) (by simpa using b2) (hf p _ (List.mem_singleton.2 rfl) (Nat.le_refl _))
      exact ⟨v, w', I', ρ', .inl (hexec o a w w' v ho (by rw [hv]; exact r1)), r2⟩
  case h_2 hs =>
    obtain ⟨b1, b2, h⟩ := bif2_some h
    refine ⟨_, _, _, h, fun σ' look' hσ hlk k' => ?_, Sound.of fun o a w I ρ ho hre hr hf => ?_⟩
    · obtain ⟨e1, e2⟩ := ha σ' hσ
      simp only [xop, xbuiltin, List.map_cons, List.map_nil, e1, e2, xappend, hsk', Bool.true_eq_false, if_false, ht, hte, hloc look' hlk, hs, b1, b2, Bool.and_self, cond_true]
    · obtain ⟨css, h1, h2, h3⟩ := hel w I ρ _ hre (hr ox)
      have hv := hr os; rw [hs, FR] at hv
      obtain ⟨q, hv⟩ := hv
      obtain ⟨v, w', I', ρ', r1, r2⟩ := append_nil_post hE d1 dx1 dx2 hto hts hre h1 h2 h3 q o.type (by simpa using b1) (by simpa using b2) (hf p _ (List.mem_singleton.2 rfl) (Nat.le_refl _))
      exact ⟨v, w', I', ρ', .inl (hexec o a w w' v ho (by rw [hv]; exact r1)), r2⟩
  case h_3 i win hs =>
    split at h
    case h_2 => cases h
    case h_1 a0 zs0 ety gr hl =>
    split at h
    case isFalse => cases h
    case isTrue hety =>
    split at h
    case h_2 => cases h
    case h_1 zs dz hzs =>
    obtain ⟨b1, b2, h⟩ := bif2_some h
    have hzloc := (elems_inv P G H0 hzs).1
    refine ⟨_, _, _, h, fun σ' look' hσ hlk k' => ?_, Sound.of fun o a w I ρ ho hre hr hf => ?_⟩
    · obtain ⟨e1, e2⟩ := ha σ' hσ
      have hl1 := hzloc look' fun q hq => hlk q (by simp [hq])
      rw [hs] at hl1
      simp only [xop, xbuiltin, List.map_cons, List.map_nil, e1, e2, xappend, hsk', Bool.true_eq_false, if_false, ht, hte, hloc look' (fun q hq => hlk q (by simp [hq])), hs, hlk i (by simp), hl, hety, if_true, hl1, b1, b2, Bool.and_self, cond_true]
    · obtain ⟨css, h1, h2, h3⟩ := hel w I ρ _ hre (hr ox)
      have hfp := hf p _ (List.mem_cons_of_mem _ (List.mem_singleton.2 rfl)) (Nat.le_refl _)
      have hv := hr os; rw [hs] at hv
      rw [hs] at hzs
      cases win with
      | none =>
        simp only [elemsOf, hl] at hzs
        obtain ⟨us, hu, e'⟩ := Option.map_eq_some_iff.1 hzs
        simp at e'; obtain ⟨rfl, rfl⟩ := e'
        obtain ⟨e1, e2⟩ := castTy_eq hu
        cases e1; simp at e2; subst e2
        rw [FR] at hv; obtain ⟨y, hy, hsl⟩ := hv
        have hb := hre.blk i; rw [hl] at hb
        obtain ⟨y', g1, g2, _⟩ := hb
        rw [hy] at g1; cases g1
        have hus : (List.take y.len (List.drop 0 us)) = us := by rw [List.drop_zero, List.take_of_length_le (by rw [g2]; exact Nat.le_refl _)]
        obtain ⟨v, w', I', ρ', r1, r2⟩ := append_row_post (p := p) hE d1 dx1 dx2 hto hts hre h1 h2 h3 o.type (off := 0) (n := y.len) hl hy (by omega) hsl (by rw [g2]; simpa using b1) (by rw [g2]; simpa using b2) hfp hety
        rw [hus] at r2
        exact ⟨v, w', I', ρ', .inl (hexec o a w w' v ho r1), r2⟩
      | some win =>
        obtain ⟨off, n⟩ := win
        simp only [elemsOf, hl] at hzs
        obtain ⟨us, hu, e'⟩ := Option.map_eq_some_iff.1 hzs
        simp at e'; obtain ⟨rfl, rfl⟩ := e'
        obtain ⟨e1, e2⟩ := castTy_eq hu
        cases e1; simp at e2; subst e2
        rw [FR] at hv; obtain ⟨y, hy, hle, hsl⟩ := hv
        have hb := hre.blk i; rw [hl] at hb
        obtain ⟨y', g1, g2, _⟩ := hb
        rw [hy] at g1; cases g1
        have hus : (List.take n (List.drop off zs0)).length = n := by rw [List.length_take, List.length_drop]; omega
        rw [hus] at b1 b2
        obtain ⟨v, w', I', ρ', r1, r2⟩ := append_row_post (p := p) hE d1 dx1 dx2 hto hts hre h1 h2 h3 o.type (off := off) (n := n) hl hy hle hsl (by simpa using b1) (by simpa using b2) hfp hety
        exact ⟨v, w', I', ρ', .inl (hexec o a w w' v ho r1), r2⟩
  case h_4 => cases h
end
end Go.AM
set_option linter.unusedSimpArgs false
set_option linter.unusedVariables false
namespace Go.AM
section
variable {R : Type} {P : Program} {G : Nat} {H0 : Array Obj} {E : Env R} {σ : Operand → SV} {look : Look} {p : Nat} {k : KOp R} {r : R}

def CallOk (P : Program) (G : Nat) (H0 : Array Obj) (f : Nat) (args : List SV) (look : Look) (p : Nat) (v : SV) (δ : Delta) : Prop :=
  ∀ (w : World) (I : Nat → Prop) (ρ : Nat → Option Info) (vs : Array Value), Real G H0 w I ρ look → FRs w I ρ args vs.toList → Fresh ρ look p δ →
    Calls P f vs w fun e w' => ∃ x I' ρ', e = .returned x ∧ OpPost G H0 w I ρ look v δ x w' I' ρ'

structure EnvOk (P : Program) (G : Nat) (H0 : Array Obj) (E : Env R) : Prop extends TabOk P E where
  con : ∀ f args look p (k : KOp R) r, E.con f args look p k = some r →
    (∃ fn, P.funcs[f]? = some fn ∧ (fn.name == "runtime.NumGoroutine") = false ∧ fn.body.isNone = false) ∧
    ∃ v δ τ, k v δ τ = some r ∧ (∀ look' : Look, (∀ i, i ∈ τ → look' i = look i) → ∀ k' : KOp R, E.con f args look' p k' = k' v δ τ) ∧ CallOk P G H0 f args look p v δ

theorem FRs.append {w : World} {I : Nat → Prop} {ρ : Nat → Option Info} : ∀ {vs vs' : List SV} {xs xs' : List Value}, FRs w I ρ vs xs → FRs w I ρ vs' xs' → FRs w I ρ (vs ++ vs') (xs ++ xs')
  | [], _, _, _, h, h' => by rw [FRs] at h; subst h; simpa using h'
  | v :: vs, _, _, _, h, h' => by
    rw [FRs] at h; obtain ⟨x, r, rfl, h1, h2⟩ := h
    rw [List.cons_append, FRs]
    exact ⟨x, _, rfl, h1, FRs.append h2 h'⟩

theorem FRs.map {w : World} {I : Nat → Prop} {ρ : Nat → Option Info} {f : Operand → SV} {g : Operand → Value} : ∀ (l : List Operand), (∀ x, FR w I ρ (f x) (g x)) → FRs w I ρ (l.map f) (l.map g)
  | [], _ => by simp [FRs]
  | x :: l, h => by rw [List.map_cons, FRs]; exact ⟨_, _, rfl, h x, FRs.map l h⟩

theorem call_ok (hE : EnvOk P G H0 E) {f : Operand} {xs : Array Operand} {ats : Array TypeId} (h : xop E (.call { callee := .value f, args := xs, argTypes := ats }) σ look p k = some r) :
    OpOk P G H0 E (.call { callee := .value f, args := xs, argTypes := ats }) σ look p k r := by
  simp only [xop] at h
  split at h
  case h_2 => cases h
  case h_1 g caps hf =>
  obtain ⟨⟨fn, n1, n2, n3⟩, v, δ, τ, hk, hloc, hok⟩ := hE.con _ _ _ _ _ _ h
  refine ⟨v, δ, τ, hk, fun σ' look' hσ hlk k' => ?_, fun o a w I ρ ho hre hr hfr next Q hn => ?_⟩
  · have e1 : σ' f = σ f := hσ f (by simp [Op.operands, Call.operands])
    have e2 : xs.toList.map σ' = xs.toList.map σ := List.map_congr_left fun x hx => hσ x (by simp [Op.operands, Call.operands]; exact .inr (by simpa using hx))
    simp only [xop, e1, e2, hf]
    exact hloc look' hlk k'
  · have hfv := hr f; rw [hf, FR] at hfv
    obtain ⟨cs, e1, e2⟩ := hfv
    have hargs : FRs w I ρ (xs.toList.map σ ++ caps) (xs.map a.eval ++ cs).toList := by
      rw [Array.toList_append, Array.toList_map]
      exact (FRs.map xs.toList hr).append e2
    have hcalls := hok w I ρ (xs.map a.eval ++ cs) hre hargs hfr
    have hrun : (execOp a.eval o).run P w = .ok (.enter g (xs.map a.eval ++ cs)) w := by
      simp only [execOp, ho, resolve, Deferred.ofValue, e1, invoke, callFunc, Sem.run_bind, Sem.run_pure, Result.andThen_ok, run_program, n1, n2, n3, Bool.false_eq_true, if_false, Array.empty_append]
    simp only [Oper.wp, hrun, Oper.upon]
    refine hcalls.mono fun e w' hx => ?_
    obtain ⟨x, I', ρ', rfl, hp⟩ := hx
    exact hn x w' I' ρ' hp

theorem map_one {α β : Type} {f : α → β} {l : List α} {x : β} (h : l.map f = [x]) : ∃ a, l = [a] ∧ f a = x := by
  match l, h with
  | [a], h => simp at h; exact ⟨a, rfl, h⟩

theorem arr_one {α : Type} {a : Array α} {x : α} (h : a.toList = [x]) : a = #[x] := by
  cases a; simp at h; simp [h]

theorem All2.len_arr {α β : Type} {f : α → β → Prop} {xs : List α} {ys : Array β} (h : All2 f xs ys.toList) : xs.length = ys.size := by simpa using h.len

theorem len_ok (hE : TabOk P E) {xs : Array Operand} {ats : Array TypeId} (h : xop E (.call { callee := .builtin .len, args := xs, argTypes := ats }) σ look p k = some r) :
    OpOk P G H0 E (.call { callee := .builtin .len, args := xs, argTypes := ats }) σ look p k r := by
  simp only [xop, xbuiltin] at h
  split at h
  case h_2 => cases h
  case h_1 x t hargs hats =>
  obtain ⟨ox, hxs, rfl⟩ := map_one hargs
  have hxs' := arr_one hxs
  have hats' := arr_one hats
  subst hxs'; subst hats'
  split at h
  case h_2 => cases h
  case h_1 ti n d ht hlen =>
  split at h
  case isFalse => cases h
  case isTrue hkind =>
  have hloc : ∀ look' : Look, (∀ i, i ∈ d → look' i = look i) → lenOf look' (σ ox) = some (n, d) := by
    intro look' hlk
    unfold lenOf at hlen ⊢
    split at hlen
    case h_8 i _ =>
      split at hlen
      case h_2 => cases hlen
      case h_1 hl => simp at hlen; obtain ⟨rfl, rfl⟩ := hlen; simp [hlk i (by simp), hl]
    case h_10 i _ =>
      split at hlen
      case h_2 => cases hlen
      case h_1 hl => simp at hlen; obtain ⟨rfl, rfl⟩ := hlen; simp [hlk i (by simp), hl]
    all_goals first | exact hlen | (cases hlen)
  refine ⟨_, _, _, h, fun σ' look' hσ hlk k' => ?_, Sound.calm fun o a w I ρ ho hre hr => ⟨_, ?_, FR.int_mk⟩⟩
  · have e1 : σ' ox = σ ox := hσ ox (by simp [Op.operands, Call.operands])
    simp only [xop, xbuiltin, List.map_cons, List.map_nil, e1, ht, hloc look' hlk, hkind, if_true]
  · obtain ⟨dd, d1, d2, d3⟩ := (hE.tab _ _ ht).desc
    have hv := hr ox
    have hrun : (Builtin.len_ #[t] o.type #[a.eval ox]).run P w = .ok (goInt n) w := by
      generalize hs : σ ox = s at hv hlen hkind
      generalize ti.kind = kd at d2 hkind
      unfold lenKind at hkind
      split at hkind
      · rename_i s'
        cases d2
        simp [lenOf] at hlen; obtain ⟨rfl, rfl⟩ := hlen
        rw [hv.str]; simp [Builtin.len_, underlying, d1, size_mk]
      · rename_i e a' xs'
        cases d2
        simp [lenOf] at hlen; obtain ⟨rfl, rfl⟩ := hlen
        rw [FR, PR] at hv
        rcases hv with ⟨rfl, q, c, e3⟩ | ⟨b, o', c, css, _, e3, _⟩
        · simp at e3; rw [e3]; simp [Builtin.len_, underlying, d1]
        · simp at e3; rw [e3]; simp [Builtin.len_, underlying, d1]
      · cases d2
        simp [lenOf] at hlen; obtain ⟨rfl, rfl⟩ := hlen
        rw [FR] at hv; rw [hv]; simp [Builtin.len_, underlying, d1]
      · cases d2
        simp [lenOf] at hlen; obtain ⟨rfl, rfl⟩ := hlen
        rw [FR] at hv; obtain ⟨q, hv⟩ := hv; rw [hv]; simp [Builtin.len_, underlying, d1]
      · rename_i e i win
        cases d2
        cases win with
        | none =>
          simp only [lenOf] at hlen
          split at hlen
          case h_2 => cases hlen
          case h_1 t' xs' ety gr hl =>
          simp at hlen; obtain ⟨rfl, rfl⟩ := hlen
          rw [FR] at hv; obtain ⟨y, hy, q, e3, _⟩ := hv
          have hb := hre.blk i; rw [hl] at hb
          obtain ⟨y', g1, g2, _⟩ := hb
          rw [hy] at g1; cases g1
          rw [e3, g2]; simp [Builtin.len_, underlying, d1]
        | some q =>
          obtain ⟨e', n'⟩ := q
          simp [lenOf] at hlen; obtain ⟨rfl, rfl⟩ := hlen
          rw [FR] at hv; obtain ⟨y, hy, _, q, e3, _⟩ := hv
          rw [e3]; simp [Builtin.len_, underlying, d1]
      · rename_i n' e m a' xs'
        cases d2
        simp at hkind; subst hkind
        simp [lenOf] at hlen; obtain ⟨rfl, rfl⟩ := hlen
        rw [FR] at hv; obtain ⟨cs, e3, _⟩ := hv
        rw [e3]; simp [Builtin.len_, underlying, d1]
      · cases d2
        simp [lenOf] at hlen; obtain ⟨rfl, rfl⟩ := hlen
        rw [FR] at hv; rw [hv]; simp [Builtin.len_, underlying, d1]
      · rename_i kt vt i
        cases d2
        simp only [lenOf] at hlen
        split at hlen
        case h_2 => cases hlen
        case h_1 kt' vt' es hl =>
        simp at hlen; obtain ⟨rfl, rfl⟩ := hlen
        rw [FR] at hv; obtain ⟨y, b, h1, h2, e3⟩ := hv
        have hb := hre.blk i; rw [hl] at hb
        obtain ⟨y', b', ents, clock, g1, g2, g3, g4⟩ := hb
        rw [h1] at g1; cases g1; rw [h2] at g2; cases g2
        rw [e3]
        simp [Builtin.len_, underlying, d1, getObj, Sem.run, g3, g4.len_arr]
      · cases hkind
    simp only [execOp, ho, resolve, invoke, builtin, Sem.run_bind, Sem.run_pure, Result.andThen_ok]
    simp [hrun, goInt]

theorem map_three {α β : Type} {f : α → β} {l : List α} {x y z : β} (h : l.map f = [x, y, z]) : ∃ a b c, l = [a, b, c] ∧ f a = x ∧ f b = y ∧ f c = z := by
  match l, h with
  | [a, b, c], h => simp at h; exact ⟨a, b, c, rfl, h.1, h.2.1, h.2.2⟩

theorem arr_three {α : Type} {a : Array α} {x y z : α} (h : a.toList = [x, y, z]) : a = #[x, y, z] := by
  cases a; simp at h; simp [h]

theorem min_ok {xs : Array Operand} {ats : Array TypeId} (h : xop E (.call { callee := .builtin .min, args := xs, argTypes := ats }) σ look p k = some r) :
    OpOk P G H0 E (.call { callee := .builtin .min, args := xs, argTypes := ats }) σ look p k r := by
  simp only [xop, xbuiltin] at h
  split at h
  case h_2 => cases h
  case h_1 v hv =>
  have hex : ∀ (o : Oper) (a : Act) (w : World) (z : Value), o.op = .call { callee := .builtin .min, args := xs, argTypes := ats } → (Builtin.min_ ats o.type (xs.map a.eval)).run P w = .ok z w → (execOp a.eval o).run P w = .ok (.value z) w := by
    intro o a w z ho hrun
    simp only [execOp, ho, resolve, invoke, builtin, Sem.run_bind, Sem.run_pure, Result.andThen_ok, hrun]
  refine ⟨_, _, _, h, fun σ' look' hσ hlk k' => ?_, ?_⟩
  · have e2 : xs.toList.map σ' = xs.toList.map σ := List.map_congr_left fun x hx => hσ x (by simp [Op.operands, Call.operands]; simpa using hx)
    simp only [xop, xbuiltin, e2, hv]
  · unfold xminmax at hv
    split at hv
    case h_1 j a l b hargs =>
      split at hv
      case isFalse => cases hv
      case isTrue hjl =>
      subst hjl
      simp at hv; subst hv
      obtain ⟨o1, o2, hxs, h1, h2⟩ := map_two hargs
      have hxs' := arr_two hxs; subst hxs'
      refine Sound.calm fun o ac w I ρ ho hre hr => ⟨_, hex o ac w _ ho ?_, FR.int_mk⟩
      have g1 := hr o1; rw [h1] at g1
      have g2 := hr o2; rw [h2] at g2
      simp [Builtin.min_, g1.int, g2.int, Builtin.min2]
    case h_2 j a l b m c hargs =>
      split at hv
      case isFalse => cases hv
      case isTrue hjl =>
      obtain ⟨rfl, rfl⟩ := hjl
      simp at hv; subst hv
      obtain ⟨o1, o2, o3, hxs, h1, h2, h3⟩ := map_three hargs
      have hxs' := arr_three hxs; subst hxs'
      refine Sound.calm fun o ac w I ρ ho hre hr => ⟨_, hex o ac w _ ho ?_, FR.int_mk⟩
      have g1 := hr o1; rw [h1] at g1
      have g2 := hr o2; rw [h2] at g2
      have g3 := hr o3; rw [h3] at g3
      simp [Builtin.min_, g1.int, g2.int, g3.int, Builtin.min2]
    case h_3 => cases hv

theorem max_ok {xs : Array Operand} {ats : Array TypeId} (h : xop E (.call { callee := .builtin .max, args := xs, argTypes := ats }) σ look p k = some r) :
    OpOk P G H0 E (.call { callee := .builtin .max, args := xs, argTypes := ats }) σ look p k r := by
  simp only [xop, xbuiltin] at h
  split at h
  case h_2 => cases h
  case h_1 v hv =>
  have hex : ∀ (o : Oper) (a : Act) (w : World) (z : Value), o.op = .call { callee := .builtin .max, args := xs, argTypes := ats } → (Builtin.max_ ats o.type (xs.map a.eval)).run P w = .ok z w → (execOp a.eval o).run P w = .ok (.value z) w := by
    intro o a w z ho hrun
    simp only [execOp, ho, resolve, invoke, builtin, Sem.run_bind, Sem.run_pure, Result.andThen_ok, hrun]
  refine ⟨_, _, _, h, fun σ' look' hσ hlk k' => ?_, ?_⟩
  · have e2 : xs.toList.map σ' = xs.toList.map σ := List.map_congr_left fun x hx => hσ x (by simp [Op.operands, Call.operands]; simpa using hx)
    simp only [xop, xbuiltin, e2, hv]
  · unfold xminmax at hv
    split at hv
    case h_1 j a l b hargs =>
      split at hv
      case isFalse => cases hv
      case isTrue hjl =>
      subst hjl
      simp at hv; subst hv
      obtain ⟨o1, o2, hxs, h1, h2⟩ := map_two hargs
      have hxs' := arr_two hxs; subst hxs'
      refine Sound.calm fun o ac w I ρ ho hre hr => ⟨_, hex o ac w _ ho ?_, FR.int_mk⟩
      have g1 := hr o1; rw [h1] at g1
      have g2 := hr o2; rw [h2] at g2
      simp [Builtin.max_, g1.int, g2.int, Builtin.max2]
    case h_2 j a l b m c hargs =>
      split at hv
      case isFalse => cases hv
      case isTrue hjl =>
      obtain ⟨rfl, rfl⟩ := hjl
      simp at hv; subst hv
      obtain ⟨o1, o2, o3, hxs, h1, h2, h3⟩ := map_three hargs
      have hxs' := arr_three hxs; subst hxs'
      refine Sound.calm fun o ac w I ρ ho hre hr => ⟨_, hex o ac w _ ho ?_, FR.int_mk⟩
      have g1 := hr o1; rw [h1] at g1
      have g2 := hr o2; rw [h2] at g2
      have g3 := hr o3; rw [h3] at g3
      simp [Builtin.max_, g1.int, g2.int, g3.int, Builtin.max2]
    case h_3 => cases hv

theorem bytes_back {w : World} {I : Nat → Prop} : ∀ {xs : List Int} {css : List (List Value)}, All2 (PR w I (.int .u8)) xs css → css.flatten = xs.map (Value.int .u8)
  | [], [], _ => rfl
  | x :: xs, c :: css, h => by
    have h1 := h.1; rw [PR] at h1; subst h1
    simp [bytes_back h.2]

theorem bytes_string (ns : List Int) : ns.foldl (fun (r : ByteArray) n => r.push (UInt8.ofNat n.toNat)) ByteArray.empty = ⟨(bytesOf ns).toArray⟩ := by
  rw [foldl_push_bytes]
  apply ByteArray.ext
  simp [bytesOf]

theorem run_toString {w : World} {I : Nat → Prop} {v : Value} {xs : List Int} {css : List (List Value)} (h1 : All2 (PR w I (.int .u8)) xs css) (h2 : (Builtin.lenOf v).run P w = .ok xs.length w)
    (h3 : ∀ w' : World, w'.heap = w.heap → ∀ n, n ≤ xs.length → (Builtin.firstCells (Ty.int .u8).size n v).run P w' = .ok (css.take n).flatten.toArray w') (hns : ∀ s, v ≠ .string s) :
    ∃ q c, v = .slice q xs.length c ∧ (Conv.bytesToString v).run P w = .ok (.string ⟨(bytesOf xs).toArray⟩) w := by
  cases v with
  | slice q n c =>
    simp [Builtin.lenOf] at h2
    subst h2
    have h4 := h3 w rfl xs.length (Nat.le_refl _)
    rw [take_all2 h1, bytes_back h1] at h4
    refine ⟨q, c, rfl, ?_⟩
    cases q with
    | none =>
      simp [Builtin.firstCells] at h4
      have : xs = [] := by
        cases xs with
        | nil => rfl
        | cons => simp at h4
      subst this
      simp [Conv.bytesToString, bytesOf]; rfl
    | some a =>
      have h5 : (loadCells a xs.length).run P w = .ok (xs.map (Value.int .u8)).toArray w := by
        simpa [Builtin.firstCells, Ty.size] using h4
      rw [Go.run_bytesToString w a xs.length c xs h5, bytes_string]
  | string s => exact absurd rfl (hns s)
  | _ => simp [Builtin.lenOf] at h2

theorem FR.not_string {w : World} {I : Nat → Prop} {ρ : Nat → Option Info} {t : Ty} {look : Look} {x : SV} {ys : List t.D} {d : List Nat} {v : Value} (h : FR w I ρ x v) (he : elemsOf t look x = some (ys, d)) (hx : ∀ s, x ≠ .pv .str s) : ∀ s, v ≠ .string s := by
  intro s e
  subst e
  cases x with
  | pv t' x' =>
    cases t' with
    | str => exact hx _ rfl
    | sl a => rw [FR, PR] at h; rcases h with ⟨_, q, c, e⟩ | ⟨b, o, c, css, _, e, _⟩ <;> simp at e
    | _ => simp [elemsOf] at he
  | sl i win =>
    cases win with
    | none => rw [FR] at h; obtain ⟨_, _, q, e, _⟩ := h; cases e
    | some q => obtain ⟨a, b⟩ := q; rw [FR] at h; obtain ⟨_, _, _, q, e, _⟩ := h; cases e
  | asl => rw [FR] at h; obtain ⟨_, _, _, _, e⟩ := h; cases e
  | emp => rw [FR] at h; obtain ⟨_, e⟩ := h; cases e
  | nils => rw [FR] at h; cases h
  | _ => simp [elemsOf] at he

def bytesArr (z : List UInt8) (cap : Nat) : List Value := (z.map fun b => [Value.int .u8 b.toNat]).flatten ++ List.replicate (cap - z.length) (.int .u8 0)

theorem bytesArr_len (z : List UInt8) (cap : Nat) (h : z.length ≤ cap) : (bytesArr z cap).length = cap := by
  unfold bytesArr; rw [flatten_map_one]; simp; omega

theorem run_stringToBytes (e : TypeId) (z : List UInt8) (w : World) : ∃ cap w', z.length ≤ cap ∧ w'.heap = w.heap.push (.cells (bytesArr z cap).toArray e (cap, cap + 1)) ∧ w'.os = w.os ∧ w'.tape = w.tape ∧ w'.output = w.output ∧
    (Conv.stringToBytes e ⟨z.toArray⟩).run P w = .ok (.slice (some ⟨w.heap.size, 0, none⟩) z.length cap) w' := by
  have hcap := grownCap_ge w z.length 0 e
  have hsz : (⟨z.toArray⟩ : ByteArray).size = z.length := size_mk z
  have hal : (bytesArr z (grownCap w z.length 0 e)).toArray.size = grownCap w z.length 0 e := by rw [List.size_toArray, bytesArr_len _ _ hcap]
  have hel : Array.map (fun b : UInt8 => Value.int .u8 b.toNat) (⟨z.toArray⟩ : ByteArray).data ++ Array.replicate (grownCap w z.length 0 e - z.length) (.int .u8 0) = (bytesArr z (grownCap w z.length 0 e)).toArray := by
    apply Array.ext'
    unfold bytesArr
    rw [flatten_map_one]
    simp
  let w1 : World := w.drew.alloc (.cells (bytesArr z (grownCap w z.length 0 e)).toArray e)
  refine ⟨grownCap w z.length 0 e, w1.freeze ⟨w.heap.size, (bytesArr z (grownCap w z.length 0 e)).toArray.size, none⟩ 1, hcap, ?_, rfl, rfl, rfl, ?_⟩
  · simp only [World.freeze, Nat.one_ne_zero, if_false]
    show (Array.modify (w.heap.push (.cells (bytesArr z (grownCap w z.length 0 e)).toArray e)) w.heap.size _) = _
    apply Array.ext_getElem?
    intro i
    rw [Array.getElem?_modify, Array.getElem?_push, Array.getElem?_push]
    by_cases hi : i = w.heap.size
    · subst hi; simp [bytesArr_len _ _ hcap]
    · simp [hi, Ne.symm hi]
  · have hshape : w1.shape? w.heap.size = some (e, (bytesArr z (grownCap w z.length 0 e)).toArray.size) := by
      show (match (w.heap.push (.cells (bytesArr z (grownCap w z.length 0 e)).toArray e))[w.heap.size]? with | some (.cells c elem _) => some (elem, c.size) | _ => none) = _
      simp
    simp only [Conv.stringToBytes, Sem.run_bind, run_choose, Question.forced, Bool.false_eq_true, if_false, Result.andThen_ok, hsz]
    have : (Question.appendCap z.length 0 e).cut (w.tape w.drawn (.appendCap z.length 0 e)) = grownCap w z.length 0 e := rfl
    rw [this, hel]
    simp only [newRow, Sem.run_bind, run_newObj, Result.andThen_ok, Sem.run_pure, markStringish, run_shape]
    have h11 : ({ heap := w.heap.push (.cells (bytesArr z (grownCap w z.length 0 e)).toArray e), tape := w.tape, drawn := w.drawn + 1, os := w.os, output := w.output } : World).shape? w.heap.size =
      some (e, (bytesArr z (grownCap w z.length 0 e)).toArray.size) := hshape
    simp only [h11, run_freeze, Result.andThen_ok, Sem.run_pure]
    rfl

theorem convert_ok (hE : TabOk P E) {s d : Nat} {x : Operand} (h : xop E (.convert s d x) σ look p k = some r) : OpOk P G H0 E (.convert s d x) σ look p k r := by
  simp only [xop, xconv] at h
  have ha : ∀ σ' : Operand → SV, (∀ y, y ∈ (Op.convert s d x).operands.toList → σ' y = σ y) → σ' x = σ x := fun σ' hσ => hσ x (by simp [Op.operands])
  split at h
  case h_2 => cases h
  case h_1 si di hs hd =>
  obtain ⟨ds, s1, s2, s3⟩ := (hE.tab _ _ hs).desc
  obtain ⟨dd, d1, d2, d3⟩ := (hE.tab _ _ hd).desc
  split at h
  case h_1 j j' n hk hx =>
    rw [hk] at d2; cases d2
    refine ⟨_, _, _, h, fun σ' look' hσ hlk k' => by simp only [xop, xconv, ha σ' hσ, hs, hd, hk, hx], Sound.calm fun o a w I ρ ho hre hr => ⟨_, ?_, FR.int_mk⟩⟩
    have hv := hr x; rw [hx] at hv
    simp [execOp, ho, hv.int, convert, underlying, s1, d1, Conv.intToInt]
  case h_2 z hk hx =>
    rw [hk] at d2; cases d2
    refine ⟨_, _, _, h, fun σ' look' hσ hlk k' => by simp only [xop, xconv, ha σ' hσ, hs, hd, hk, hx], Sound.calm fun o a w I ρ ho hre hr => ⟨_, ?_, FR.str_mk⟩⟩
    have hv := hr x; rw [hx] at hv
    simp [execOp, ho, hv.str, convert, underlying, s1, d1]
  case h_3 e z hk hx =>
    rw [hk] at d2; cases d2
    split at h
    case h_2 => cases h
    case h_1 sz ag by_ ty zr eq hte =>
    obtain ⟨b1, h⟩ := bif_some h
    obtain ⟨de, e1, e2, e3⟩ := (hE.tab _ _ hte).desc
    cases e2
    refine ⟨_, _, _, h, fun σ' look' hσ hlk k' => by simp only [xop, xconv, ha σ' hσ, hs, hd, hk, hx, hte, b1, cond_true], Sound.of fun o a w I ρ ho hre hr hf => ?_⟩
    have hv := hr x; rw [hx] at hv
    have hp := hf p _ (List.mem_singleton.2 rfl) (Nat.le_refl _)
    obtain ⟨cap, w', hcap, hheap, r1, r2, r3, hrun⟩ := run_stringToBytes (P := P) e z w
    have hlen : (List.map (fun b : UInt8 => (b.toNat : Int)) z).length = List.length z := List.length_map ..
    obtain ⟨q1, q2, q3⟩ := birth_row (gr := true) (w' := w') (cap := cap) (ety := e) hre (look' := applyL look [(p, .row (.int .u8) (List.map (fun b : UInt8 => (b.toNat : Int)) z) e true)]) (bytes_all2 z) (by rw [hlen]; exact hcap) (by simp)
      (rest := List.replicate (cap - List.length z) (.int .u8 0)) (by rw [hlen]; simp [Ty.size]) (fz := (cap, cap + 1)) (fun o ho h => by simp only [Ty.size, Nat.mul_one] at ho; exact absurd h.1 (Nat.not_le.2 ho)) hp.2
      (fun j hj => by rw [upd_applyL, upd_other _ _ hj]) (by rw [upd_applyL, upd_same]) hheap r1 r2 r3
    refine ⟨_, w', I, _, .inl ?_, q1, q2, q3⟩
    rw [hlen]
    simp only [execOp, ho, hv.str, convert, Sem.run_bind, underlying, run_program, Result.andThen_ok, s1, d1, e1, Sem.run_pure]
    cases ds <;> simp [hrun, e1]
  case h_4 hk hx1 =>
    rw [hk] at d2; cases d2
    split at h
    case h_2 => cases h
    case h_1 e hsk =>
    rw [hsk] at s2; cases s2
    split at h
    case h_2 => cases h
    case h_1 sz ag by_ ty zr eq hte =>
    obtain ⟨de, e1, e2, e3⟩ := (hE.tab _ _ hte).desc
    cases e2
    split at h
    case h_2 => cases h
    case h_1 xs dx hel =>
    obtain ⟨hloc, hat⟩ := elems_inv P G H0 hel
    have hns : ∀ z, σ x ≠ .pv .str z := fun z e => hx1 z e
    refine ⟨_, _, _, h, fun σ' look' hσ hlk k' => ?_, Sound.calm fun o a w I ρ ho hre hr => ?_⟩
    · have e1 := ha σ' hσ
      simp only [xop, xconv, e1, hs, hd, hk]
      generalize hz : σ x = z at hns hloc
      cases z with
      | pv t y => cases t with
        | str => exact absurd rfl (hns y)
        | _ => simp only [hsk, hte, hloc look' hlk]
      | _ => simp only [hsk, hte, hloc look' hlk]
    · obtain ⟨css, h1, h2, h3⟩ := hat w I ρ _ hre (hr x)
      obtain ⟨q, c, hv, hrun⟩ := run_toString h1 h2 h3 (FR.not_string (hr x) hel hns)
      refine ⟨_, ?_, FR.str_mk⟩
      rw [hv] at hrun
      simp only [execOp, ho, hv, convert, Sem.run_bind, underlying, run_program, Result.andThen_ok, s1, d1, Sem.run_pure]
      simp [e1, hrun]
  case h_5 => cases h
end
end Go.AM
set_option linter.unusedSimpArgs false
set_option linter.unusedVariables false
namespace Go.AM
section
variable {R : Type} {P : Program} {G : Nat} {H0 : Array Obj} {E : Env R} {σ : Operand → SV} {look : Look} {p : Nat} {k : KOp R} {r : R}

theorem leB_iff {i : Int} {n : Nat} : leB i n = true ↔ 0 ≤ i ∧ i ≤ (n : Int) := by simp [leB]

def lowOf (lo : Option Int) : Nat := match lo with | none => 0 | some l => l.toNat
def highOf (hi : Option Int) (n : Nat) : Nat := match hi with | none => n | some h => h.toNat

theorem cutList_some {α : Type} {xs : List α} {lo hi : Option Int} {kk : List α → Option R} {r : R} (h : cutList xs lo hi kk = some r) :
    lowOf lo ≤ highOf hi xs.length ∧ highOf hi xs.length ≤ xs.length ∧ (∀ l, lo = some l → 0 ≤ l) ∧ (∀ u, hi = some u → 0 ≤ u) ∧
    ∃ ys, ys = (xs.take (highOf hi xs.length)).drop (lowOf lo) ∧ kk ys = some r ∧ ∀ kk' : List α → Option R, cutList xs lo hi kk' = kk' ys := by
  unfold cutList at h
  split at h
  · exact ⟨by simp [lowOf], by simp [highOf], by simp, by simp, xs, by simp [lowOf, highOf], h, fun kk' => rfl⟩
  · rename_i u
    obtain ⟨hb, h⟩ := bif_some h
    obtain ⟨h1, h2⟩ := leB_iff.1 hb
    refine ⟨by simp [lowOf], by simp [highOf]; omega, by simp, by simpa using h1, _, by simp [lowOf, highOf], h, fun kk' => by simp [cutList, hb]⟩
  · rename_i l
    obtain ⟨hb, h⟩ := bif_some h
    obtain ⟨h1, h2⟩ := leB_iff.1 hb
    refine ⟨by simp [lowOf, highOf]; omega, by simp [highOf], by simpa using h1, by simp, _, by simp [lowOf, highOf], h, fun kk' => by simp [cutList, hb]⟩
  · rename_i l u
    obtain ⟨hb, h⟩ := bif_some h
    obtain ⟨hb', h⟩ := bif_some h
    obtain ⟨h1, h2⟩ := leB_iff.1 hb
    obtain ⟨h3, h4⟩ := leB_iff.1 hb'
    refine ⟨by simp [lowOf, highOf]; omega, by simp [highOf]; omega, by simpa using h3, by simpa using h1, _, by simp [lowOf, highOf], h, fun kk' => by simp [cutList, hb, hb']⟩

theorem cutWin_some {e n : Nat} {lo hi : Option Int} {kk : Nat → Nat → Option R} {r : R} (h : cutWin e n lo hi kk = some r) :
    lowOf lo ≤ highOf hi n ∧ highOf hi n ≤ n ∧ (∀ l, lo = some l → 0 ≤ l) ∧ (∀ u, hi = some u → 0 ≤ u) ∧
    ∃ e' n', e' = e + lowOf lo ∧ n' = highOf hi n - lowOf lo ∧ kk e' n' = some r ∧ ∀ kk' : Nat → Nat → Option R, cutWin e n lo hi kk' = kk' e' n' := by
  unfold cutWin at h
  split at h
  · exact ⟨by simp [lowOf], by simp [highOf], by simp, by simp, e, n, by simp [lowOf], by simp [lowOf, highOf], h, fun kk' => rfl⟩
  · rename_i u
    obtain ⟨hb, h⟩ := bif_some h
    obtain ⟨h1, h2⟩ := leB_iff.1 hb
    exact ⟨by simp [lowOf], by simp [highOf]; omega, by simp, by simpa using h1, _, _, by simp [lowOf], by simp [lowOf, highOf], h, fun kk' => by simp [cutWin, hb]⟩
  · rename_i l
    obtain ⟨hb, h⟩ := bif_some h
    obtain ⟨h1, h2⟩ := leB_iff.1 hb
    exact ⟨by simp [lowOf, highOf]; omega, by simp [highOf], by simpa using h1, by simp, _, _, by simp [lowOf], by simp [lowOf, highOf], h, fun kk' => by simp [cutWin, hb]⟩
  · rename_i l u
    obtain ⟨hb, h⟩ := bif_some h
    obtain ⟨hb', h⟩ := bif_some h
    obtain ⟨h1, h2⟩ := leB_iff.1 hb
    obtain ⟨h3, h4⟩ := leB_iff.1 hb'
    exact ⟨by simp [lowOf, highOf]; omega, by simp [highOf]; omega, by simpa using h3, by simpa using h1, _, _, by simp [lowOf], by simp [lowOf, highOf], h, fun kk' => by simp [cutWin, hb, hb']⟩

def BndR (o : Option Value) (b : Option Int) : Prop := match o, b with
  | none, none => True
  | some (.int _ n), some m => n = m
  | _, _ => False

theorem bnd_fr {w : World} {I : Nat → Prop} {ρ : Nat → Option Info} {o : Option Operand} {b : Option Int} {a : Act} (h : bnd (o.map σ) = some b) (hr : ∀ x, FR w I ρ (σ x) (a.eval x)) : BndR (o.map a.eval) b := by
  cases o with
  | none => simp [bnd] at h; subst h; trivial
  | some x =>
    simp only [Option.map_some, bnd] at h
    split at h
    · rename_i e; cases e
    · rename_i j n e
      simp at e h; subst h
      have := hr x; rw [e] at this
      simp [BndR, this.int]
    · cases h

theorem BndR.inv {o : Option Value} {b : Option Int} (h : BndR o b) : (b = none ∧ o = none) ∨ ∃ j m, b = some m ∧ o = some (.int j m) := by
  unfold BndR at h
  split at h
  · exact .inl ⟨rfl, rfl⟩
  · subst h; exact .inr ⟨_, _, rfl, rfl⟩
  · exact h.elim

theorem run_bounds (isSl : Bool) {len cap : Nat} (hlc : len ≤ cap) {lo hi : Option Value} {l h : Option Int} (h1 : BndR lo l) (h2 : BndR hi h) (b1 : lowOf l ≤ highOf h len) (b2 : highOf h len ≤ len)
    (b3 : ∀ z, l = some z → 0 ≤ z) (b4 : ∀ z, h = some z → 0 ≤ z) (w : World) :
    (Instr.sliceBounds isSl len cap lo hi none).run P w = .ok (lowOf l, highOf h len, cap) w := by
  rcases h1.inv with ⟨rfl, rfl⟩ | ⟨j, n, rfl, rfl⟩ <;> rcases h2.inv with ⟨rfl, rfl⟩ | ⟨j', n', rfl, rfl⟩
  · simp [Instr.sliceBounds, lowOf, highOf]
  · have := b4 _ rfl
    simp [highOf] at b2
    have hh : n' ≤ (cap : Int) := by omega
    simp [Instr.sliceBounds, Instr.sliceBound, asIntOf, lowOf, highOf, this, hh]
  · have := b3 _ rfl
    simp [lowOf, highOf] at b1
    have hh : n ≤ (len : Int) := by omega
    simp [Instr.sliceBounds, Instr.sliceBound, asIntOf, lowOf, highOf, this, hh]
  · have t1 := b3 _ rfl
    have t2 := b4 _ rfl
    have e1 : n.toNat ≤ n'.toNat := by simpa [lowOf, highOf] using b1
    simp [highOf] at b2
    have hh : n' ≤ (cap : Int) := by omega
    have hh2 : n ≤ max n' 0 := by omega
    simp [Instr.sliceBounds, Instr.sliceBound, asIntOf, lowOf, highOf, t1, t2, hh, hh2]

theorem run_sliceAt_slice {t e : Nat} {te : TI} (ht : P.underlying t = some (.slice e)) (hte : TIok P e te) {a : Option Addr} {len cap : Nat} (hlc : len ≤ cap) {lo hi : Option Value} {l h : Option Int}
    (h1 : BndR lo l) (h2 : BndR hi h) (b1 : lowOf l ≤ highOf h len) (b2 : highOf h len ≤ len) (b3 : ∀ z, l = some z → 0 ≤ z) (b4 : ∀ z, h = some z → 0 ≤ z) (w : World) :
    (Instr.sliceAt t (.slice a len cap) lo hi none).run P w = .ok (.slice (if cap = lowOf l then a else a.map (·.add (lowOf l * te.size))) (highOf h len - lowOf l) (cap - lowOf l)) w := by
  simp [Instr.sliceAt, Instr.slice, underlying, ht, run_bounds true hlc h1 h2 b1 b2 b3 b4, hte.run_sizeOf]

theorem extract_mk (s : List UInt8) (l h : Nat) : (⟨s.toArray⟩ : ByteArray).extract l h = ⟨((s.take h).drop l).toArray⟩ := by
  apply ByteArray.ext
  apply Array.ext'
  simp [ByteArray.data_extract, List.extract, List.drop_take]

theorem slice_ok (hE : TabOk P E) {t : Nat} {x : Operand} {lo hi mx : Option Operand} (h : xop E (.slice t x lo hi mx) σ look p k = some r) : OpOk P G H0 E (.slice t x lo hi mx) σ look p k r := by
  simp only [xop] at h
  have ha : ∀ σ' : Operand → SV, (∀ z, z ∈ (Op.slice t x lo hi mx).operands.toList → σ' z = σ z) → σ' x = σ x ∧ lo.map σ' = lo.map σ ∧ hi.map σ' = hi.map σ ∧ mx.map σ' = mx.map σ := by
    intro σ' hσ
    refine ⟨hσ x (by simp [Op.operands]), ?_, ?_, ?_⟩
    · cases lo with
      | none => rfl
      | some z => simp only [Option.map_some]; rw [hσ z (by simp [Op.operands])]
    · cases hi with
      | none => rfl
      | some z => simp only [Option.map_some]; rw [hσ z (by simp [Op.operands])]
    · cases mx with
      | none => rfl
      | some z => simp only [Option.map_some]; rw [hσ z (by simp [Op.operands])]
  unfold xslice at h
  split at h
  case h_1 => cases h
  case h_2 ti ht =>
  obtain ⟨d, d1, d2, d3⟩ := (hE.tab _ _ ht).desc
  split at h
  case h_1 m hm =>
    have hmx : ∃ om, mx = some om ∧ σ om = m := by cases mx with
      | none => simp at hm
      | some om => exact ⟨om, rfl, by simpa using hm⟩
    obtain ⟨om, rfl, hom⟩ := hmx
    have key : ∃ e, ti.kind = .slice e ∧ (lo.map σ) = none ∧ ((∃ a xs, σ x = .pv (.sl a) xs) ∨ (∃ i w, σ x = .sl i w) ∨ σ x = .nils ∨ σ x = .emp) ∧ (E.tab e).isSome = true ∧ isZero (hi.map σ) = true ∧ isZero (some m) = true ∧
        k .emp [] [] = some r := by
      split at h
      case h_5 => cases h
      all_goals
        rename_i hk hx hl
        obtain ⟨hz, h⟩ := bif_some h
        simp only [Bool.and_eq_true] at hz
        exact ⟨_, hk, hl, by simp [hx], hz.1.1, hz.1.2, by rw [← hm]; exact hz.2, h⟩
    obtain ⟨e, hk, hl, hx, hse, hz1, hz2, hk'⟩ := key
    obtain ⟨te, hte⟩ := Option.isSome_iff_exists.1 hse
    have hlo : lo = none := by cases lo with
      | none => rfl
      | some => simp at hl
    subst hlo
    have hhi : ∃ oh, hi = some oh ∧ ∃ j, σ oh = .pv (.int j) 0 := by
      cases hi with
      | none => simp [isZero] at hz1
      | some oh =>
        simp only [Option.map_some, isZero.eq_def] at hz1
        split at hz1
        · rename_i e; simp at e; exact ⟨oh, rfl, _, by rw [e]; simp at hz1; rw [hz1]⟩
        · cases hz1
    obtain ⟨oh, rfl, jh, hoh⟩ := hhi
    have hmz : ∃ j, σ om = .pv (.int j) 0 := by
      simp only [isZero.eq_def] at hz2
      split at hz2
      · rename_i e; simp at e; exact ⟨_, by rw [hom, e]; simp at hz2; rw [hz2]⟩
      · cases hz2
    obtain ⟨jm, hom'⟩ := hmz
    rw [hk] at d2
    simp only [kindOk] at d2
    subst d2
    refine ⟨_, _, _, hk', fun σ' look' hσ hlk k' => ?_, Sound.calm fun o a w I ρ ho hre hr => ?_⟩
    · obtain ⟨e1, e2, e3, e4⟩ := ha σ' hσ
      simp only [xop, e1, e3, e4, Option.map_none, Option.map_some, hoh, hom', xslice, ht, hk]
      rcases hx with ⟨b, xs, hx⟩ | ⟨i, w, hx⟩ | hx | hx <;> simp [hx, hse, isZero]
    · have v1 := hr oh; rw [hoh] at v1
      have v2 := hr om; rw [hom'] at v2
      have hv := hr x
      have hsl : ∃ q len cap, a.eval x = .slice q len cap := by
        rcases hx with ⟨b, xs, hx⟩ | ⟨i, w, hx⟩ | hx | hx <;> rw [hx, FR] at hv
        · rw [PR] at hv
          rcases hv with ⟨_, q, c, e3⟩ | ⟨b', o', c, css, hI, e3, _⟩
          · simp at e3; exact ⟨_, _, _, e3⟩
          · simp at e3; exact ⟨_, _, _, e3⟩
        · obtain ⟨y, _, hv⟩ := hv
          split at hv
          · obtain ⟨q, e3, _⟩ := hv; exact ⟨_, _, _, e3⟩
          · obtain ⟨_, q, e3, _⟩ := hv; exact ⟨_, _, _, e3⟩
        · exact ⟨_, _, _, hv⟩
        · obtain ⟨q, e3⟩ := hv; exact ⟨_, _, _, e3⟩
      obtain ⟨q, len, cap, hv'⟩ := hsl
      refine ⟨_, by simp [execOp, ho, hv', v1.int, v2.int, Instr.sliceAt, Instr.slice, Instr.sliceBounds, Instr.sliceBound, asIntOf, underlying, d1, (hE.tab _ _ hte).run_sizeOf]; rfl, ?_⟩
      rw [FR]; exact ⟨_, rfl⟩
  case h_2 hm =>
  have hmx : mx = none := by cases mx with
    | none => rfl
    | some => simp at hm
  subst hmx
  split at h
  case h_2 => cases h
  case h_1 l u hl hu =>
  have hloc : ∀ (σ' : Operand → SV) (look' : Look) (k' : KOp R), (∀ z, z ∈ (Op.slice t x lo hi none).operands.toList → σ' z = σ z) → xop E (.slice t x lo hi none) σ' look' p k' = xslice E t look' (σ x) (lo.map σ) (hi.map σ) none k' := by
    intro σ' look' k' hσ
    obtain ⟨e1, e2, e3, _⟩ := ha σ' hσ
    simp only [xop, e1, e2, e3, Option.map_none]
  split at h
  case h_1 s hk hx =>
    rw [hk] at d2; cases d2
    obtain ⟨b1, b2, b3, b4, ys, rfl, hk', hkk⟩ := cutList_some h
    refine ⟨_, _, _, hk', fun σ' look' hσ hlk k' => ?_, Sound.calm fun o a w I ρ ho hre hr => ?_⟩
    · rw [hloc σ' look' k' hσ]; simp only [xslice, ht, hl, hu, hk, hx]; exact hkk fun s' => k' (.pv .str s') [] []
    · have hv := hr x; rw [hx] at hv
      have h1 := bnd_fr hl hr
      have h2 := bnd_fr hu hr
      refine ⟨_, ?_, FR.str_mk⟩
      have hsz : (⟨List.toArray s⟩ : ByteArray).size = List.length s := size_mk s
      have := run_bounds (P := P) false (len := List.length s) (cap := List.length s) (Nat.le_refl _) h1 h2 b1 b2 b3 b4 w
      simp [execOp, ho, hv.str, Instr.sliceAt, Instr.slice, underlying, d1, hsz, this, extract_mk]
  case h_2 e a xs hk hx =>
    rw [hk] at d2; cases d2
    split at h
    case h_2 => cases h
    case h_1 te hte =>
    split at h
    case isFalse => cases h
    case isTrue hsz =>
    obtain ⟨b1, b2, b3, b4, ys, rfl, hk', hkk⟩ := cutList_some h
    refine ⟨_, _, _, hk', fun σ' look' hσ hlk k' => ?_, Sound.calm fun o a' w I ρ ho hre hr => ?_⟩
    · rw [hloc σ' look' k' hσ]; simp only [xslice, ht, hl, hu, hk, hx, hte, hsz, if_true]; exact hkk fun xs' => k' (.pv (.sl a) xs') [] []
    · have hv := hr x; rw [hx, FR, PR] at hv
      have h1 := bnd_fr hl hr
      have h2 := bnd_fr hu hr
      rcases hv with ⟨rfl, q, c, e3⟩ | ⟨b, o', c, css, hI, e3, hc, h3, h4⟩
      · simp at e3
        have hrun := run_sliceAt_slice (len := 0) (cap := c) (a := q) d1 (hE.tab _ _ hte) (Nat.zero_le _) h1 h2 (by simpa using b1) (by simpa using b2) b3 b4 w
        refine ⟨_, by simp only [execOp, ho, e3, Option.map_none, Sem.run_bind, hrun, Result.andThen_ok, Sem.run_pure]; rfl, ?_⟩
        have hz : highOf u 0 - lowOf l = 0 := by simp at b2; omega
        rw [FR, PR]; exact .inl ⟨by simp, _, _, by rw [hz]⟩
      · simp at e3
        have hrun := run_sliceAt_slice (len := List.length xs) (cap := c) (a := some ⟨b, o', none⟩) d1 (hE.tab _ _ hte) hc h1 h2 b1 b2 b3 b4 w
        refine ⟨_, by simp only [execOp, ho, e3, Option.map_none, Sem.run_bind, hrun, Result.andThen_ok, Sem.run_pure]; rfl, ?_⟩
        have hlen : (List.drop (lowOf l) (List.take (highOf u (List.length xs)) xs)).length = highOf u (List.length xs) - lowOf l := by
          rw [List.length_drop, List.length_take]; omega
        by_cases hz : highOf u (List.length xs) - lowOf l = 0
        · rw [FR, PR]; refine .inl ⟨List.eq_nil_of_length_eq_zero (by rw [hlen]; exact hz), _, _, by rw [hz]⟩
        · rw [FR, PR]
          refine .inr ⟨b, o' + lowOf l * te.size, c - lowOf l, List.drop (lowOf l) (List.take (highOf u (List.length xs)) css), hI, ?_, by rw [hlen]; omega, (h3.take _).drop _, ?_⟩
          · rw [hlen, if_neg (by omega)]
            simp [addr_add]
          · rw [hsz]
            refine h4.sub _ fun j v hj => ?_
            have e1 : css = css.take (lowOf l) ++ css.drop (lowOf l) := (List.take_append_drop ..).symm
            have e2 : (List.drop (lowOf l) (List.take (highOf u (List.length xs)) css)) = (css.drop (lowOf l)).take (highOf u (List.length xs) - lowOf l) := by rw [List.drop_take]
            rw [e2] at hj
            have e3' : (css.drop (lowOf l)).flatten = ((css.drop (lowOf l)).take (highOf u (List.length xs) - lowOf l)).flatten ++ ((css.drop (lowOf l)).drop (highOf u (List.length xs) - lowOf l)).flatten := by
              rw [← List.flatten_append, List.take_append_drop]
            have hpl : (css.take (lowOf l)).flatten.length = lowOf l * a.size := by
              rw [flatten_len_const fun c hc => h3.lens c (List.mem_of_mem_take hc), List.length_take, ← h3.len]
              congr 1; omega
            have e4 : css.flatten = (css.take (lowOf l)).flatten ++ (css.drop (lowOf l)).flatten := by rw [← List.flatten_append, List.take_append_drop]
            rw [e4, List.getElem?_append_right (by omega), hpl, Nat.add_sub_cancel_left, e3', List.getElem?_append_left (List.getElem?_eq_some_iff.1 hj).1]
            exact hj
  case h_3 e b win hk hx =>
    rw [hk] at d2; cases d2
    split at h
    case h_2 => cases h
    case h_1 te hte =>
    split at h
    case h_2 => cases h
    case h_1 t' xs ety gr hlb =>
    split at h
    case isFalse => cases h
    case isTrue hsz =>
    split at h
    case h_1 =>
      obtain ⟨b1, b2, b3, b4, e', n', rfl, rfl, hk', hkk⟩ := cutWin_some h
      refine ⟨_, _, _, hk', fun σ' look' hσ hlk k' => ?_, Sound.calm fun o a' w I ρ ho hre hr => ?_⟩
      · rw [hloc σ' look' k' hσ]; simp only [xslice, ht, hl, hu, hk, hx, hte, hlk b (by simp), hlb, hsz, if_true]; exact hkk fun e n => k' (.sl b (some (e, n))) [] [b]
      · have hv := hr x; rw [hx, FR] at hv
        obtain ⟨y, hy, q, e3, hq⟩ := hv
        have hb := hre.blk b; rw [hlb] at hb
        obtain ⟨y', g1, g2, g3, g4, _⟩ := hb
        rw [hy] at g1; cases g1
        have h1 := bnd_fr hl hr
        have h2 := bnd_fr hu hr
        have hrun := run_sliceAt_slice (len := y.len) (cap := y.cap - 0) (a := q) d1 (hE.tab _ _ hte) (by omega) h1 h2 (by rw [g2]; exact b1) (by rw [g2]; exact b2) b3 b4 w
        refine ⟨_, by simp only [execOp, ho, e3, Option.map_none, Sem.run_bind, hrun, Result.andThen_ok, Sem.run_pure]; rfl, ?_⟩
        rw [FR]
        refine ⟨y, hy, by rw [g2]; omega, _, by rw [g2, Nat.zero_add, Nat.sub_zero], fun hc => ?_⟩
        obtain ⟨b', h3, rfl⟩ := hq (by omega)
        refine ⟨b', h3, ?_⟩
        rw [if_neg (by omega)]
        simp [addr_add, g3, hsz]
    case h_2 e0 n0 =>
      obtain ⟨b1, b2, b3, b4, e', n', rfl, rfl, hk', hkk⟩ := cutWin_some h
      refine ⟨_, _, _, hk', fun σ' look' hσ hlk k' => ?_, Sound.calm fun o a' w I ρ ho hre hr => ?_⟩
      · rw [hloc σ' look' k' hσ]; simp only [xslice, ht, hl, hu, hk, hx, hte, hlk b (by simp), hlb, hsz, if_true]; exact hkk fun e n => k' (.sl b (some (e, n))) [] [b]
      · have hv := hr x; rw [hx, FR] at hv
        obtain ⟨y, hy, hle, q, e3, hq⟩ := hv
        have hb := hre.blk b; rw [hlb] at hb
        obtain ⟨y', g1, g2, g3, g4, _⟩ := hb
        rw [hy] at g1; cases g1
        have h1 := bnd_fr hl hr
        have h2 := bnd_fr hu hr
        have hrun := run_sliceAt_slice (len := n0) (cap := y.cap - e0) (a := q) d1 (hE.tab _ _ hte) (by omega) h1 h2 b1 b2 b3 b4 w
        refine ⟨_, by simp only [execOp, ho, e3, Option.map_none, Sem.run_bind, hrun, Result.andThen_ok, Sem.run_pure]; rfl, ?_⟩
        rw [FR]
        refine ⟨y, hy, by omega, _, by rw [Nat.sub_sub], fun hc => ?_⟩
        obtain ⟨b', h3, rfl⟩ := hq (by omega)
        refine ⟨b', h3, ?_⟩
        rw [if_neg (by omega)]
        simp [addr_add, g3, hsz, Nat.add_mul, Nat.add_assoc]
  case h_4 e hk hx =>
    rw [hk] at d2; cases d2
    split at h
    case h_2 => cases h
    case h_1 te hte =>
    refine ⟨_, _, _, h, fun σ' look' hσ hlk k' => ?_, Sound.calm fun o a' w I ρ ho hre hr => ?_⟩
    · rw [hloc σ' look' k' hσ]; simp only [xslice, ht, hl, hu, hk, hx, hte]
    · have hv := hr x; rw [hx] at hv
      have hv' := hv
      rw [FR] at hv'
      have h1 := bnd_fr hl hr
      have h2 := bnd_fr hu hr
      have e1 : lo.map a'.eval = none := by cases lo <;> simp [BndR] at h1 ⊢
      have e2 : hi.map a'.eval = none := by cases hi <;> simp [BndR] at h2 ⊢
      refine ⟨.slice none 0 0, ?_, by rw [FR]⟩
      simp [execOp, ho, hv', e1, e2, Instr.sliceAt, Instr.slice, Instr.sliceBounds, underlying, d1, (hE.tab _ _ hte).run_sizeOf]
  case h_5 n e b c hk hx =>
    rw [hk] at d2; cases d2
    split at h
    case h_2 => cases h
    case h_1 te hte =>
    refine ⟨_, _, _, h, fun σ' look' hσ hlk k' => ?_, Sound.calm fun o a' w I ρ ho hre hr => ?_⟩
    · rw [hloc σ' look' k' hσ]; simp only [xslice, ht, hl, hu, hk, hx, hte]
    · have hv := hr x; rw [hx, FR] at hv
      obtain ⟨y, b', h1, h2, e3⟩ := hv
      have g1 := bnd_fr hl hr
      have g2 := bnd_fr hu hr
      have hb := run_bounds (P := P) false (len := n) (cap := n) (Nat.le_refl _) g1 g2 (by simp [lowOf]) (by simp [highOf]) (by simp) (by simp) w
      refine ⟨.slice (some ⟨b', c, none⟩) n n, ?_, by rw [FR]; exact ⟨y, b', h1, h2, rfl⟩⟩
      simp [execOp, ho, e3, Instr.sliceAt, underlying, d1, Instr.sureAddr, hb, lowOf, highOf, (hE.tab _ _ hte).run_sizeOf, addr_add]
  case h_6 => cases h
end
end Go.AM
set_option linter.unusedSimpArgs false
set_option linter.unusedVariables false
namespace Go.AM
section
variable {R : Type} {P : Program} {G : Nat} {H0 : Array Obj} {E : Env R} {σ : Operand → SV} {look : Look} {p : Nat} {k : KOp R} {r : R}

theorem flatten_replicate_get {α : Type} : ∀ {n : Nat} {l : List α} {j : Nat}, j < n * l.length → (List.replicate n l).flatten[j]? = l[j % l.length]?
  | 0, l, j, h => by simp at h
  | n + 1, l, j, h => by
    simp only [List.replicate_succ, List.flatten_cons]
    by_cases hj : j < l.length
    · rw [List.getElem?_append_left hj, Nat.mod_eq_of_lt hj]
    · have hp : 0 < l.length := by
        rcases Nat.eq_zero_or_pos l.length with e | e
        · rw [e] at h; simp at h
        · exact e
      rw [List.getElem?_append_right (by omega), flatten_replicate_get (by rw [Nat.succ_mul] at h; omega), Nat.mod_eq_sub_mod (by omega : j ≥ l.length)]

theorem range_rep (n : Nat) (z : Array Value) (hz : n ≠ 0 → z.size ≠ 0) : ((Array.range (n * z.size)).map (z[· % z.size]!)).toList = (List.replicate n z.toList).flatten := by
  apply List.ext_getElem?
  intro j
  by_cases h : j < n * z.size
  · rw [flatten_replicate_get (by simpa using h)]
    have hz' : 0 < z.size := by
      rcases Nat.eq_zero_or_pos z.size with e | e
      · rw [e] at h; simp at h
      · exact e
    have hm := Nat.mod_lt j hz'
    simp [h, hm, List.getElem?_range]
  · have e1 : ((Array.range (n * z.size)).map (z[· % z.size]!)).toList[j]? = none := by
      rw [List.getElem?_eq_none_iff]; simp; omega
    have e2 : (List.replicate n z.toList).flatten[j]? = none := by
      rw [List.getElem?_eq_none_iff]; simp; omega
    rw [e1, e2]

theorem run_makeSlice {t e : Nat} {te : TI} {T : Ty} (ht : P.underlying t = some (.slice e)) (hte : TIok P e te) (hT : te.ty = some T) (kl kc : IntKind) {l c : Int} (h0 : 0 ≤ l) (hlc : l ≤ c)
    (hm : c.toNat ≤ LIM) (hb : c.toNat * te.bytes ≤ LIM) (w : World) :
    ∃ z : List Value, (∀ w I, PR w I T T.dflt z) ∧ (Instr.makeSlice t (.int kl l) (.int kc c)).run P w =
      .ok (.slice (some ⟨w.heap.size, 0, none⟩) l.toNat c.toNat) (w.alloc (.cells (List.replicate c.toNat z).flatten.toArray e)) := by
  obtain ⟨i, z, i1, i2, i3, i4, i5, i6, i7, i8⟩ := hte.info
  obtain ⟨h1, h2, i', z', j1, j2, j3⟩ := hte.ty T hT
  rw [i1] at j1; cases j1
  rw [i4] at j2; cases j2
  refine ⟨z.cells.toList, j3, ?_⟩
  have hz : z.cells.size = te.size := i8
  unfold LIM at hm hb
  have wl : IntKind.i64.wrap l = l := by rw [IntKind.wrap_i64]; omega
  have wc : IntKind.i64.wrap c = c := by rw [IntKind.wrap_i64]; omega
  have n1 : ¬ c < 0 := by omega
  have hbi : (te.bytes : Int) * c = ((c.toNat * te.bytes : Nat) : Int) := by
    have : c = (c.toNat : Int) := by omega
    rw [this]; simp [Nat.mul_comm, Int.mul_comm]
  have n2 : ¬ (281474976710656 < (te.bytes : Int) * c) := by rw [hbi]; omega
  have n3 : ¬ l < 0 := by omega
  have n4 : ¬ c < l := by omega
  have n5 : ¬ (140737488355328 < c.toNat * te.bytes) := by omega
  by_cases hn : c.toNat * te.size = 0
  · have e1 : (List.replicate c.toNat z.cells.toList).flatten.toArray = #[] := by
      rcases Nat.mul_eq_zero.1 hn with hn | hn
      · simp [hn]
      · have : z.cells.toList = [] := by apply List.eq_nil_of_length_eq_zero; simp [hz, hn]
        simp [this]
    simp [Instr.makeSlice, run_underlying ht, asInt, asIntOf, typeInfo, i1, sizeOf, i2, i3, wl, wc, n1, n2, n3, n4, n5, hn, newRow, askRoom, roomBytes, e1]
    congr 1
    congr 1
    exact Array.eq_empty_of_size_eq_zero (by simp)
  · have e1 : (List.replicate c.toNat z.cells.toList).flatten.toArray = (Array.range (c.toNat * te.size)).map (z.cells[· % z.cells.size]!) := by
      apply Array.ext'
      have := range_rep c.toNat z.cells (fun _ h => hn (by rw [← hz, h, Nat.mul_zero]))
      rw [hz] at this
      rw [hz]; exact this.symm
    rw [e1]
    simp [Instr.makeSlice, run_underlying ht, asInt, asIntOf, typeInfo, i1, sizeOf, i2, i3, zeroValue, i4, wl, wc, n1, n2, n3, n4, n5, hn, newRow, askRoom, roomBytes]

theorem makeSlice_ok (hE : TabOk P E) {t : Nat} {l c : Operand} (h : xop E (.makeSlice t l c) σ look p k = some r) : OpOk P G H0 E (.makeSlice t l c) σ look p k r := by
  simp only [xop] at h
  have ha : ∀ σ' : Operand → SV, (∀ z, z ∈ (Op.makeSlice t l c).operands.toList → σ' z = σ z) → σ' l = σ l ∧ σ' c = σ c :=
    fun σ' hσ => ⟨hσ l (by simp [Op.operands]), hσ c (by simp [Op.operands])⟩
  unfold xmakeSlice at h
  split at h
  case h_2 => cases h
  case h_1 e sz ag by_ ty_ zr eq ht =>
  split at h
  case h_2 => cases h
  case h_1 kd sz2 ag2 bytes te zr2 eq2 hte =>
  obtain ⟨d, d1, d2, d3⟩ := (hE.tab _ _ ht).desc
  cases d2
  have hto := hE.tab _ _ hte
  have hts : te.size = sz2 := (hto.ty te rfl).1
  split at h
  case h_2 => cases h
  case h_1 n m hl hc =>
  change Int at n m
  obtain ⟨hb, h⟩ := bif_some h
  have hb' := hb
  simp only [Bool.and_eq_true, decide_eq_true_eq] at hb'
  obtain ⟨⟨b1, b2⟩, b3⟩ := hb'
  have hexec : ∀ (o : Oper) (a : Act) (w w' : World) (v : Value), o.op = .makeSlice t l c → a.eval l = .int .i64 n → a.eval c = .int .i64 m →
      (Instr.makeSlice t (.int .i64 n) (.int .i64 m)).run P w = .ok v w' → (execOp a.eval o).run P w = .ok (.value v) w' := by
    intro o a w w' v ho h1 h2 hrun
    simp [execOp, ho, h1, h2, hrun]
  have main : ∀ (xs : List te.D) (gr : Bool), 0 ≤ n → n ≤ m → xs = List.replicate n.toNat te.dflt → (gr = false → n = m) → Sound P G H0 (.makeSlice t l c) σ look p (.sl p none) [(p, .row te xs e gr)] := by
    intro xs gr h0 hnm hxs hgr
    refine Sound.of fun o a w I ρ ho hre hr hf => ?_
    have hvl := hr l; rw [hl] at hvl
    have hvc := hr c; rw [hc] at hvc
    obtain ⟨z, z1, z2⟩ := run_makeSlice (P := P) (T := te) d1 hto rfl .i64 .i64 h0 hnm b2 b3 w
    have hfp := hf p _ (List.mem_singleton.2 rfl) (Nat.le_refl _)
    have hzl : z.length = te.size := (z1 w I).len
    have hlx : xs.length = n.toNat := by rw [hxs]; simp
    have hsplit : (List.replicate m.toNat z).flatten = (List.replicate n.toNat z).flatten ++ (List.replicate (m.toNat - n.toNat) z).flatten := by
      rw [← List.flatten_append, List.replicate_append_replicate]; congr 2; omega
    obtain ⟨p1, p2, p3⟩ := birth_row (gr := gr) (cap := m.toNat) (ety := e) (w' := w.alloc (.cells (List.replicate m.toNat z).flatten.toArray e)) hre (look' := applyL look [(p, .row te xs e gr)]) (t := te) (xs := xs) (css := List.replicate n.toNat z)
      (rest := (List.replicate (m.toNat - n.toNat) z).flatten) (by rw [hxs]; exact All2.replicate (z1 w I) _) (by rw [hlx]; omega) (fun hg => by have := hgr hg; rw [hlx]; omega)
      (by rw [flatten_len_const (k := te.size) (fun c hc => by rw [List.eq_of_mem_replicate hc]; exact hzl)]; simp [hlx]) (fz := (0, 0)) (fun o _ h => absurd h.2 (Nat.not_lt_zero _)) hfp.2
      (fun j hj => by rw [upd_applyL, upd_other _ _ hj]) (by rw [upd_applyL, upd_same]) (by rw [← hsplit]; rfl) rfl rfl rfl
    rw [hlx] at p1 p2 p3
    exact ⟨_, _, I, _, .inl (hexec o a w _ _ ho hvl.int hvc.int z2), p1, p2, p3⟩
  by_cases hnm : n = m
  · subst hnm
    simp only [decide_true, cond_true] at h
    refine ⟨_, _, _, h, fun σ' look' hσ hlk k' => ?_, main _ _ b1 (Int.le_refl _) rfl (fun _ => rfl)⟩
    obtain ⟨e1, e2⟩ := ha σ' hσ
    simp only [xop, e1, e2, xmakeSlice, ht, hte, hl, hc, hb, cond_true, decide_true]
  · have hd : decide (n = m) = false := by simp [hnm]
    rw [hd, cond_false] at h
    obtain ⟨hz, h⟩ := bif_some h
    have hz' : n = 0 := by simpa using hz
    refine ⟨_, _, _, h, fun σ' look' hσ hlk k' => ?_, main _ _ (by rw [hz']; exact Int.le_refl _) (by rw [hz']; exact b1) (by rw [hz']; rfl) (fun h => by cases h)⟩
    obtain ⟨e1, e2⟩ := ha σ' hσ
    simp only [xop, e1, e2, xmakeSlice, ht, hte, hl, hc, hb, cond_true, hd, cond_false, hz]

theorem makeMap_ok {t : Nat} {x : Option Operand} (h : xop E (.makeMap t x) σ look p k = some r) : OpOk P G H0 E (.makeMap t x) σ look p k r := by
  cases x with
  | some => simp [xop] at h
  | none =>
  simp only [xop] at h
  split at h
  case h_2 => cases h
  case h_1 a b hab =>
  refine ⟨_, _, _, h, fun σ' look' hσ hlk k' => by simp only [xop, hab], Sound.of fun o ac w I ρ ho hre hr hf => ?_⟩
  have hfp := hf p _ (List.mem_singleton.2 rfl) (Nat.le_refl _)
  refine ⟨.map (some w.heap.size), w.alloc (.map #[] 0), I, upd ρ p (some ⟨some w.heap.size, 0, 0, 0, 0⟩), .inl ?_, ?_, ?_, fun i y hi => ?_⟩
  · simp [execOp, ho, Instr.makeMap]
  · refine hre.birth hfp.2 (fun j hj => by rw [upd_applyL, upd_other _ _ hj]) (by simp) (fun c hc => alloc_old _ _ hc) (fun b hb => ?_) ?_ rfl rfl rfl
    · simp at hb; subst hb; simp
    · rw [upd_applyL, upd_same]
      exact ⟨_, w.heap.size, #[], 0, upd_same _ _ _, rfl, alloc_new _ _, trivial⟩
  · rw [FR]; exact ⟨_, _, upd_same _ _ _, rfl, rfl⟩
  · by_cases e : i = p
    · subst e; exact .inr ⟨_, List.mem_singleton.2 rfl⟩
    · rw [upd_other _ _ e] at hi; exact .inl hi
end
end Go.AM
set_option linter.unusedSimpArgs false
set_option linter.unusedVariables false
namespace Go.AM
section
variable {R : Type} {P : Program} {G : Nat} {H0 : Array Obj} {E : Env R} {σ : Operand → SV} {look : Look} {p : Nat} {k : KOp R} {r : R}

theorem flatten_drop_const {α : Type} {k : Nat} : ∀ {css : List (List α)} {m : Nat}, (∀ c ∈ css, c.length = k) → (css.drop m).flatten = css.flatten.drop (m * k)
  | css, 0, _ => by simp
  | [], m + 1, _ => by simp
  | c :: css, m + 1, h => by
    simp only [List.drop_succ_cons, List.flatten_cons]
    have hc := h c (by simp)
    have hle : c.length ≤ (m + 1) * k := by rw [hc, Nat.succ_mul]; omega
    have ih := flatten_drop_const (css := css) (m := m) fun c hc => h c (List.mem_cons_of_mem _ hc)
    rw [List.drop_append, List.drop_eq_nil_of_le hle, List.nil_append, ih, hc]
    congr 1
    rw [Nat.succ_mul]; omega

theorem run_copy {ats : Array TypeId} {dt e : Nat} {te : TI} (ha : ats[0]? = some dt) (hd : P.underlying dt = some (.slice e)) (hte : TIok P e te) {w : World} {base : Option Addr} {dLen dCap n : Nat} {x : Value} {news : List Value} (ty : TypeId)
    (hl : (Builtin.lenOf x).run P w = .ok n w) (hf : (Builtin.firstCells te.size (min n dLen) x).run P w = .ok news.toArray w) :
    (Builtin.copy_ ats ty #[.slice base dLen dCap, x]).run P w = match base with
      | some a => ((storeCells a news).run P w).andThen fun _ w' => .ok (.int .i64 ((min n dLen : Nat) : Int)) w'
      | none => .ok (.int .i64 ((min n dLen : Nat) : Int)) w := by
  generalize hm : min n dLen = m at hf
  have hm' : Nat.min n dLen = m := hm
  cases base <;> simp [Builtin.copy_, ha, underlying, hd, hl, hte.run_sizeOf, hm', hf, goInt]

theorem copy_data {w : World} {I : Nat → Prop} {t : Ty} {xs ys : List t.D} {cx cy : List (List Value)} (hx : All2 (PR w I t) xs cx) (hy : All2 (PR w I t) ys cy) :
    All2 (PR w I t) (ys.take xs.length ++ xs.drop ys.length) (cy.take (min ys.length xs.length) ++ cx.drop (min ys.length xs.length)) := by
  have e1 : ys.take xs.length = ys.take (min ys.length xs.length) := by
    rcases Nat.le_total ys.length xs.length with h | h
    · rw [Nat.min_eq_left h, List.take_of_length_le h, List.take_length]
    · rw [Nat.min_eq_right h]
  have e2 : xs.drop ys.length = xs.drop (min ys.length xs.length) := by
    rcases Nat.le_total ys.length xs.length with h | h
    · rw [Nat.min_eq_left h]
    · rw [Nat.min_eq_right h, List.drop_length, List.drop_eq_nil_of_le h]
  rw [e1, e2]
  exact (hy.take _).append (hx.drop _)

theorem copy_len {α : Type} (xs ys : List α) : (ys.take xs.length ++ xs.drop ys.length).length = xs.length := by
  simp; omega

theorem copy_cells {k : Nat} {cx cy : List (List Value)} {pre rest : List Value} (hx : ∀ c ∈ cx, c.length = k) (hy : ∀ c ∈ cy, c.length = k) {m : Nat} (h1 : m ≤ cx.length) (h2 : m ≤ cy.length) :
    (pre ++ (cx.flatten ++ rest)).take pre.length ++ (cy.take m).flatten ++ (pre ++ (cx.flatten ++ rest)).drop (pre.length + (cy.take m).flatten.length) = pre ++ ((cy.take m ++ cx.drop m).flatten ++ rest) := by
  have hl : (cy.take m).flatten.length = m * k := by
    rw [flatten_len_const fun c hc => hy c (List.mem_of_mem_take hc)]; simp [Nat.min_eq_left h2]
  have hxl : cx.flatten.length = cx.length * k := flatten_len_const hx
  have := splice_mid pre cx.flatten rest (cy.take m).flatten 0 (by rw [hl, hxl, Nat.zero_add]; exact Nat.mul_le_mul_right _ h1)
  simp only [Nat.add_zero, Nat.zero_add, List.take_zero, List.nil_append] at this
  rw [this, hl, ← flatten_drop_const hx, ← List.flatten_append]

theorem copy_ok (hE : TabOk P E) {xs : Array Operand} {ats : Array TypeId} (h : xop E (.call { callee := .builtin .copy, args := xs, argTypes := ats }) σ look p k = some r) :
    OpOk P G H0 E (.call { callee := .builtin .copy, args := xs, argTypes := ats }) σ look p k r := by
  simp only [xop, xbuiltin] at h
  split at h
  case h_2 => cases h
  case h_1 d s dt ats' hargs hats =>
  obtain ⟨od, os, hxs, rfl, rfl⟩ := map_two hargs
  have hxs' := arr_two hxs
  subst hxs'
  have ha0 : ats[0]? = some dt := by rw [← Array.getElem?_toList, hats]; rfl
  have ha : ∀ σ' : Operand → SV, (∀ z, z ∈ (Op.call { callee := .builtin .copy, args := #[od, os], argTypes := ats }).operands.toList → σ' z = σ z) → σ' od = σ od ∧ σ' os = σ os :=
    fun σ' hσ => ⟨hσ od (by simp [Op.operands, Call.operands]), hσ os (by simp [Op.operands, Call.operands])⟩
  unfold xcopy at h
  split at h
  case h_2 => cases h
  case h_1 e sz ag by_ ty_ zr eq ht =>
  split at h
  case h_2 => cases h
  case h_1 t hty =>
  obtain ⟨de, d1, d2, d3⟩ := (hE.tab _ _ ht).desc
  cases d2
  obtain ⟨te, hte, htt⟩ : ∃ te, E.tab e = some te ∧ te.ty = some t := by
    unfold Env.tyOf at hty
    split at hty
    · exact ⟨_, by assumption, hty⟩
    · cases hty
  have hto := hE.tab _ _ hte
  have hts : t.size = te.size := (hto.ty t htt).1
  split at h
  case h_2 => cases h
  case h_1 ys tch hys =>
  obtain ⟨hloc, hel⟩ := elems_inv P G H0 hys
  have hexec : ∀ (o : Oper) (a : Act) (w w' : World) (v : Value), o.op = .call { callee := .builtin .copy, args := #[od, os], argTypes := ats } →
      (Builtin.copy_ ats o.type #[a.eval od, a.eval os]).run P w = .ok v w' → (execOp a.eval o).run P w = .ok (.value v) w' := by
    intro o a w w' v ho hrun
    simp [execOp, ho, resolve, invoke, builtin, hrun]
  split at h
  case h_1 i hd =>
    split at h
    case h_2 => cases h
    case h_1 a xs ety gr hl =>
    split at h
    case h_2 => cases h
    case h_1 zs hcast =>
    obtain ⟨e1, e2⟩ := castTy_eq hcast
    have hta : t = a := by injection e1
    subst hta
    simp at e2; subst e2
    refine ⟨_, _, _, h, fun σ' look' hσ hlk k' => ?_, Sound.of fun o ac w I ρ ho hre hr hf => ?_⟩
    · obtain ⟨e1, e2⟩ := ha σ' hσ
      simp only [xop, xbuiltin, List.map_cons, List.map_nil, e1, e2, hats, xcopy, ht, hty, hloc look' (fun q hq => hlk q (by simp [hq])), hd, hlk i (by simp), hl, hcast]
    · obtain ⟨cy, h1, h2, h3⟩ := hel w I ρ _ hre (hr os)
      have hv := hr od; rw [hd, FR] at hv
      obtain ⟨y, hy, q, hv, hq⟩ := hv
      have hb := hre.blk i; rw [hl] at hb
      obtain ⟨y', g1, g2, g3, g4, g5, g6, g7⟩ := hb
      rw [hy] at g1; cases g1
      have hm : min (List.length zs) y.len = min (List.length zs) (List.length xs) := by rw [g2]
      have hrun := run_copy (P := P) (base := q) (dLen := y.len) (dCap := y.cap - 0) ha0 d1 hto o.type h2 (news := (cy.take (min (List.length zs) y.len)).flatten) (by rw [← hts]; exact h3 w rfl _ (Nat.min_le_left _ _))
      have hcyl := h1.len
      cases hbk : y.blk with
      | none =>
        have hxs0 : xs = [] := List.eq_nil_of_length_eq_zero (by have := g6 hbk; omega)
        have hm0 : min (List.length zs) y.len = 0 := by rw [g2, hxs0]; simp
        rw [hm0] at hrun
        subst hxs0
        have hrun' : (Builtin.copy_ ats o.type #[ac.eval od, ac.eval os]).run P w = .ok (.int .i64 ((min (List.length zs) ([] : List t.D).length : Nat) : Int)) w := by
          rw [hv, hrun]; cases q <;> simp [storeCells]
        have hnil : (List.take (List.length ([] : List t.D)) zs ++ List.drop (List.length zs) ([] : List t.D)) = [] := by simp
        have hself : upd look i (.row t [] ety gr) = look := by
          funext j
          by_cases e : j = i
          · subst e; rw [upd_same, hl]
          · rw [upd_other _ _ e]
        refine ⟨_, w, I, ρ, .inl (hexec o ac w w _ ho hrun'), ?_, FR.int_mk, fun i y h => .inl h⟩
        rw [upd_applyL, hnil, hself]; exact Post.refl hre
      | some b =>
        obtain ⟨arr, fz, pre, css, rest, a1, a2, a3, a4, a5, a6⟩ := g7 b hbk
        have hcxl := a4.len
        have hcells := copy_cells (k := t.size) (pre := pre) (rest := rest) a4.lens h1.lens (m := min (List.length zs) (List.length xs)) (by omega) (by omega)
        rw [← a5, a6] at hcells
        have hvl : (cy.take (min (List.length zs) (List.length xs))).flatten.length = min (List.length zs) (List.length xs) * t.size := by
          rw [flatten_len_const fun c hc => h1.lens c (List.mem_of_mem_take hc)]; congr 1; simp; omega
        have hle : y.off + 0 + (cy.take (min (List.length zs) (List.length xs))).flatten.length ≤ arr.size := by
          rw [hvl, a3]
          have : min (List.length zs) (List.length xs) * t.size ≤ y.cap * t.size := Nat.mul_le_mul_right _ (by omega)
          omega
        have hone : ∀ v ∈ (cy.take (min (List.length zs) (List.length xs))).flatten, v.oneCell' = true := by
          intro v hv
          obtain ⟨c, hc, hv⟩ := List.mem_flatten.1 hv
          exact All2.allr (p := fun c => ∀ v ∈ c, v.oneCell' = true) (fun _ _ h => PR.oneCell h) h1 c (List.mem_of_mem_take hc) v hv
        obtain ⟨w', arr', r1, r2, r3, r4⟩ := run_storeCells (P := P) (b := b) (o := y.off) _ 0 w arr a1 a2 hle hone
        rw [Nat.add_zero, hcells] at r4
        have hlive : look i ≠ .dead := by rw [hl]; simp
        have hob := hre.own b ⟨i, y, hlive, hy, hbk⟩
        have hst : Stay w I w' I := fun c hc => ⟨hc, r2.other c fun e => hob.2.1 (e ▸ hc)⟩
        have hsz' : arr'.size = arr.size := by
          have e1 := congrArg List.length r4
          have e2 := congrArg List.length a5
          simp only [Array.length_toList, List.length_append] at e1 e2
          have e3 := flatten_len_const (k := t.size) (css := cy.take (min (List.length zs) (List.length xs)) ++ css.drop (min (List.length zs) (List.length xs))) fun c hc => by
            rcases List.mem_append.1 hc with hc | hc
            · exact h1.lens c (List.mem_of_mem_take hc)
            · exact a4.lens c (List.mem_of_mem_drop hc)
          have e4 := flatten_len_const a4.lens
          have e5 : (cy.take (min (List.length zs) (List.length xs)) ++ css.drop (min (List.length zs) (List.length xs))).length = css.length := by simp; omega
          rw [e5, ← e4] at e3
          omega
        have hrun' : (Builtin.copy_ ats o.type #[ac.eval od, ac.eval os]).run P w = .ok (.int .i64 ((min (List.length zs) (List.length xs) : Nat) : Int)) w' := by
          rw [hv, hrun, g2]
          rcases Nat.eq_zero_or_pos (y.cap - 0) with hz | hz
          · have hm0 : min (List.length zs) (List.length xs) = 0 := by omega
            have hvs : (cy.take (min (List.length zs) (List.length xs))).flatten = [] := by rw [hm0]; rfl
            rw [hvs] at r1 ⊢
            simp [storeCells] at r1
            subst r1
            cases q <;> simp [storeCells]
          · obtain ⟨b', hb', rfl⟩ := hq hz
            rw [hbk] at hb'; cases hb'
            simp [r1]
        refine ⟨_, w', I, ρ, .inl (hexec o ac w w' _ ho hrun'), ?_, FR.int_mk, fun i y h => .inl h⟩
        refine hre.write (i := i) hlive hy hbk (fun j hj => by rw [upd_applyL, upd_other _ _ hj]) r2.size r2.other ?_ r2.os r2.tape r2.output
        rw [upd_applyL, upd_same]
        refine ⟨y, hy, by rw [copy_len]; exact g2, g3, by rw [copy_len]; exact g4, by rw [copy_len]; exact g5, g6, fun b' hb' => ?_⟩
        rw [hbk] at hb'; cases hb'
        exact ⟨arr', fz, pre, _, rest, r3, by rw [hsz']; exact a2, by rw [hsz']; exact a3, (copy_data a4 h1).mono fun _ _ h => h.mono hst, r4, a6⟩
  case h_2 i c n' m hd =>
    split at h
    case h_2 => cases h
    case h_1 es ety hl =>
    split at h
    case h_2 => cases h
    case h_1 n a xs rs hsk =>
    split at h
    case isFalse => cases h
    case isTrue hnm =>
    split at h
    case h_2 => cases h
    case h_1 zs hcast =>
    split at h
    case h_2 => cases h
    case h_1 es' hes =>
    obtain ⟨e1, e2⟩ := castTy_eq hcast
    have hta : t = a := by injection e1
    subst hta
    simp at e2; subst e2
    refine ⟨_, _, _, h, fun σ' look' hσ hlk k' => ?_, Sound.of fun o ac w I ρ ho hre hr hf => ?_⟩
    · obtain ⟨e1, e2⟩ := ha σ' hσ
      simp only [xop, xbuiltin, List.map_cons, List.map_nil, e1, e2, hats, xcopy, ht, hty, hloc look' (fun q hq => hlk q (by simp [hq])), hd, hlk i (by simp), hl, hsk, if_pos hnm, hcast, hes]
    · obtain ⟨cy, h1, h2, h3⟩ := hel w I ρ _ hre (hr os)
      have hv := hr od; rw [hd, FR] at hv
      obtain ⟨y, b, hy, hbk, hv⟩ := hv
      have hb := hre.blk i; rw [hl] at hb
      obtain ⟨y', b', arr, fz, g1, g2, g3, g4, g5, g6⟩ := hb.box_inv
      rw [hy] at g1; cases g1; rw [hbk] at g2; cases g2
      obtain ⟨h7, h8⟩ := g5.skip hsk
      obtain ⟨l, r', f1, f2, f3⟩ := ERs.cons.1 h8
      have f2' := CR.pv.1 f2
      rw [PR] at f2'
      obtain ⟨hn, css, k1, rfl⟩ := f2'
      have hn' : n' = List.length xs := by rw [← hnm.1, hn]
      have hrun := run_copy (P := P) (base := some ⟨b, c, none⟩) (dLen := n') (dCap := n') ha0 d1 hto o.type h2 (news := (cy.take (min (List.length zs) n')).flatten) (by rw [← hts]; exact h3 w rfl _ (Nat.min_le_left _ _))
      have hcyl := h1.len
      have hcxl := k1.len
      have harr : arr.toList = arr.toList.take c ++ (css.flatten ++ r') := by rw [← f1, List.take_append_drop]
      have hpl : (arr.toList.take c).length = c := by simp at h7 ⊢; omega
      have hflat : css.flatten.length = css.length * t.size := flatten_len_const k1.lens
      have harl : arr.size = c + (css.flatten.length + r'.length) := by
        have := congrArg List.length harr
        rw [List.length_append, hpl, List.length_append] at this; simpa using this
      have hvl : (cy.take (min (List.length zs) n')).flatten.length = min (List.length zs) n' * t.size := by
        rw [flatten_len_const fun c hc => h1.lens c (List.mem_of_mem_take hc)]; congr 1; simp; omega
      have hmle : min (List.length zs) n' * t.size ≤ css.length * t.size := Nat.mul_le_mul_right _ (by omega)
      have hone : ∀ v ∈ (cy.take (min (List.length zs) n')).flatten, v.oneCell' = true := by
        intro v hv
        obtain ⟨c, hc, hv⟩ := List.mem_flatten.1 hv
        exact All2.allr (p := fun c => ∀ v ∈ c, v.oneCell' = true) (fun _ _ h => PR.oneCell h) h1 c (List.mem_of_mem_take hc) v hv
      obtain ⟨w', arr', r1, r2, r3, r4⟩ := run_storeCells (P := P) (b := b) (o := c) _ 0 w arr g3 g4 (by rw [hvl]; omega) hone
      have hcells := copy_cells (k := t.size) (pre := arr.toList.take c) (rest := r') k1.lens h1.lens (m := min (List.length zs) n') (by omega) (by omega)
      rw [← harr, hpl] at hcells
      rw [Nat.add_zero, hcells] at r4
      have hdata : All2 (PR w I t) (List.take n zs ++ List.drop (List.length zs) xs) (cy.take (min (List.length zs) n') ++ css.drop (min (List.length zs) n')) := by
        have := copy_data k1 h1
        rw [hn', hnm.1, hn']; exact this
      have hdl : (List.take n zs ++ List.drop (List.length zs) xs).length = n := by
        rw [hnm.1, hn']; exact copy_len xs zs
      have hnew2 : ERs w I ρ [.pv (.arr n t) (List.take n zs ++ List.drop (List.length zs) xs)] (cy.take (min (List.length zs) n') ++ css.drop (min (List.length zs) n')).flatten :=
        ERs.cons.2 ⟨_, [], (List.append_nil _).symm, CR.pv.2 (by rw [PR]; exact ⟨hdl, _, hdata, rfl⟩), ERs.nil.2 rfl⟩
      obtain ⟨h11, h12⟩ := g5.splice hnew2 hes
      have hfl2 : (cy.take (min (List.length zs) n') ++ css.drop (min (List.length zs) n')).flatten.length = css.flatten.length := by
        rw [flatten_len_const hdata.lens, hflat]; congr 1; simp; omega
      have hsz' : arr'.size = arr.size := by
        have e1 := congrArg List.length r4
        simp only [Array.length_toList, List.length_append] at e1 hpl
        rw [hfl2] at e1
        omega
      have hrest : arr.toList.drop (c + css.flatten.length) = r' := by
        conv => lhs; rw [harr]
        rw [← List.append_assoc, List.drop_append_of_le_length (by simp at hpl ⊢; omega)]
        rw [List.drop_eq_nil_of_le (by rw [List.length_append, hpl]; omega)]; simp
      have hmin : min (List.length zs) n = min (List.length zs) n' := by rw [hnm.1]
      refine ⟨_, w', I, ρ, .inl (hexec o ac w w' (.int .i64 ((min (List.length zs) n : Nat) : Int)) ho ?_), write_box hre hl hy hbk r2 r3 (by rw [hsz']; exact g4) ?_, FR.int_mk, fun i y h => .inl h⟩
      · rw [hv, hrun, hmin]; simp [r1]
      · rw [hfl2, hrest] at h12
        rw [r4]; simpa using h12
  case h_3 => cases h
end
end Go.AM
set_option linter.unusedSimpArgs false
set_option linter.unusedVariables false
namespace Go.AM
section
variable {R : Type} {P : Program} {G : Nat} {H0 : Array Obj} {E : Env R} {σ : Operand → SV} {look : Look} {p : Nat} {k : KOp R} {r : R}

theorem fill_step (place : Nat → Option (Nat × Nat)) (cells : Array Value) (i : Nat) (v : Value) (rest : List (Nat × Value)) {off size : Nat} (hp : place i = some (off, size)) (hv : v.cells.size = size) (hle : off + size ≤ cells.size) :
    ∃ cells' : Array Value, cells'.toList = cells.toList.take off ++ v.cells.toList ++ cells.toList.drop (off + size) ∧ cells'.size = cells.size ∧
      Instr.fill place cells ((i, v) :: rest) = Instr.fill place cells' rest := by
  obtain ⟨h1, h2⟩ := Great.foldl_set off v.cells.toList 0 cells
  refine ⟨_, ?_, h1, ?_⟩
  · apply List.ext_getElem?
    intro k
    rw [Array.getElem?_toList, h2 k]
    simp only [Nat.add_zero, Array.length_toList, hv]
    by_cases hk : k < off
    · rw [if_neg (by omega), List.append_assoc, List.getElem?_append_left (by simp; omega), List.getElem?_take, if_pos hk, Array.getElem?_toList]
    · by_cases hk2 : k < off + size
      · rw [if_pos ⟨by omega, hk2, by omega⟩, List.append_assoc, List.getElem?_append_right (by simp; omega), List.getElem?_append_left (by simp; omega)]
        congr 1; simp; omega
      · rw [if_neg (by omega), List.getElem?_append_right (by simp; omega), List.getElem?_drop, Array.getElem?_toList]
        congr 1; simp; omega
  · rw [Instr.fill]
    simp only [hp, hv]
    rw [if_neg (by simp; omega)]
    congr 1
    rw [← Array.foldl_toList, Array.toList_zipIdx]

theorem parts_fill {te : Ty} {s : Nat} (hs : te.size = s) {w : World} {I I' : Nat → Prop} {ρ : Nat → Option Info} (hre : Real G H0 w I ρ look) {a : Act} (hr : ∀ x, FR w I ρ (σ x) (a.eval x)) :
    ∀ (ps : List (Nat × Operand)) (i : Nat) (xs : List te.D) (d : List Nat), partsOf E te look i (ps.map fun q => (q.1, σ q.2)) = some (xs, d) → Pubd ρ I I' d →
      (∀ j, j ∈ d → look j ≠ .dead) ∧ xs.length = ps.length ∧ ∃ css, All2 (PR w I' te) xs css ∧ ∀ (cells : Array Value), cells.size = (i + ps.length) * s →
      Instr.fill (fun i => some (i * s, s)) cells (ps.map fun q => (q.1, a.eval q.2)) = some (cells.toList.take (i * s) ++ css.flatten).toArray
  | [], i, xs, d, h, hp => by
    simp [partsOf] at h; obtain ⟨rfl, rfl⟩ := h
    refine ⟨by simp, rfl, [], trivial, fun cells hc => ?_⟩
    simp only [List.map_nil, Instr.fill, List.flatten_nil, List.append_nil]
    congr 1
    apply Array.ext'
    simp only [List.length_nil, Nat.add_zero] at hc
    rw [List.take_of_length_le (by simp [hc])]
  | (j, x) :: ps, i, xs, d, h, hp => by
    rw [List.map_cons, partsOf] at h
    split at h
    case isFalse => cases h
    case isTrue hij =>
    split at h
    case h_2 => cases h
    case h_1 ev hev =>
    split at h
    case h_2 => cases h
    case h_1 es d1 hpub =>
    split at h
    case h_2 => cases h
    case h_1 y hy =>
    split at h
    case h_2 => cases h
    case h_1 xs' d' hrest =>
    simp at h; obtain ⟨rfl, rfl⟩ := h
    simp only at hij hev
    subst hij
    obtain ⟨hd, hpok⟩ := pubs_ok (G := G) (H0 := H0) hpub
    obtain ⟨ih1, ih0, css, k1, ih2⟩ := parts_fill hs hre hr ps (i + 1) xs' d' hrest hp.right
    have h1 := hpok w I I' ρ _ hre hp.left (entsOf_ers (hr x) hev)
    have h2 := whole_pr hy h1
    have hl : (a.eval x).cells.size = s := by have := h2.len; rw [hs] at this; simpa using this
    refine ⟨fun j hj => ?_, by simp [ih0], (a.eval x).cells.toList :: css, ⟨h2, k1⟩, fun cells hc => ?_⟩
    · rcases List.mem_append.1 hj with hj | hj
      · exact hd j hj
      · exact ih1 j hj
    · have e0 : (i + (ps.length + 1)) * s = i * s + s + ps.length * s := by simp only [Nat.add_mul, Nat.one_mul]; omega
      simp only [List.length_cons] at hc
      rw [e0] at hc
      obtain ⟨cells', c1, c2, c3⟩ := fill_step (fun i => some (i * s, s)) cells i (a.eval x) (ps.map fun q => (q.1, a.eval q.2)) (off := i * s) (size := s) rfl hl (by omega)
      have k2 := ih2 cells' (by rw [c2, hc]; simp only [Nat.add_mul, Nat.one_mul])
      rw [List.map_cons, c3, k2, c1]
      congr 2
      have e1 : (i + 1) * s = i * s + s := by simp [Nat.add_mul]
      have e2 : (cells.toList.take (i * s)).length = i * s := by simp; omega
      rw [e1, List.take_append_of_le_length (by rw [List.length_append, e2]; simp [hl]), List.take_of_length_le (by rw [List.length_append, e2]; simp [hl])]
      simp

theorem parts_loc {te : Ty} {look' : Look} {σ' : Operand → SV} : ∀ (ps : List (Nat × Operand)) (i : Nat) (xs : List te.D) (d : List Nat), partsOf E te look i (ps.map fun q => (q.1, σ q.2)) = some (xs, d) →
    (∀ q, q ∈ ps → σ' q.2 = σ q.2) → (∀ j, j ∈ d → look' j = look j) → partsOf E te look' i (ps.map fun q => (q.1, σ' q.2)) = some (xs, d)
  | [], i, xs, d, h, _, _ => by simpa [partsOf] using h
  | (j, x) :: ps, i, xs, d, h, hσ, hlk => by
    rw [List.map_cons, partsOf] at h ⊢
    split at h
    case isFalse => cases h
    case isTrue hij =>
    split at h
    case h_2 => cases h
    case h_1 ev hev =>
    split at h
    case h_2 => cases h
    case h_1 es d1 hpub =>
    split at h
    case h_2 => cases h
    case h_1 y hy =>
    split at h
    case h_2 => cases h
    case h_1 xs' d' hrest =>
    simp at h; obtain ⟨rfl, rfl⟩ := h
    have e1 : σ' x = σ x := hσ (j, x) (by simp)
    have ih := parts_loc ps (i + 1) xs' d' hrest (fun q hq => hσ q (by simp [hq])) fun j hj => hlk j (by simp [hj])
    have hpub' := pubs_loc (look' := look') hpub fun q hq => hlk q (by simp [hq])
    simp only at hij hev
    subst hij
    simp only [if_true, e1, hev, hpub', hy, ih]

theorem run_buildSlice {t e len : Nat} {te : TI} (ht : P.underlying t = some (.slice e)) (hte : TIok P e te) (hlim : len * te.size ≤ 16777216) {parts : Array (Nat × Value)} {cs : Array Value}
    (hfill : ∀ cells : Array Value, cells.size = len * te.size → Instr.fill (fun i => some (i * te.size, te.size)) cells parts.toList = some cs) (w : World) :
    (Instr.buildSlice t len parts).run P w = .ok (.slice (some ⟨w.heap.size, 0, none⟩) len len) (w.alloc (.cells cs e)) := by
  obtain ⟨i, z, i1, i2, i3, i4, i5, i6, i7, i8⟩ := hte.info
  have hl : ¬ 16777216 < len * te.size := by omega
  by_cases hz : len * te.size = 0
  · have hf := hfill ((Array.range (len * te.size)).map ((#[] : Array Value)[· % (#[] : Array Value).size]!)) (by simp)
    simp only [hz] at hf
    simp only [Instr.buildSlice, run_underlying ht, Sem.run_bind, Result.andThen_ok, hte.run_sizeOf, hz]
    simp only [hz, Nat.not_lt_zero, gt_iff_lt, if_false, if_true, Sem.run_bind, Sem.run_pure, Result.andThen_ok, hf, newRow]
    simp
  · have hf := hfill ((Array.range (len * te.size)).map (z.cells[· % z.cells.size]!)) (by simp)
    simp only [Instr.buildSlice, run_underlying ht, Sem.run_bind, Result.andThen_ok, hte.run_sizeOf, hz, if_false, gt_iff_lt]
    simp [hl, zeroValue, typeInfo, i1, i4, hf, newRow]

theorem buildSlice_ok (hE : TabOk P E) {t len : Nat} {parts : Array (Nat × Operand)} (h : xop E (.buildSlice t len parts) σ look p k = some r) : OpOk P G H0 E (.buildSlice t len parts) σ look p k r := by
  simp only [xop] at h
  unfold xbuildSlice at h
  split at h
  case h_2 => cases h
  case h_1 e sz ag by_ ty_ zr eq ht =>
  split at h
  case h_2 => cases h
  case h_1 te hty =>
  split at h
  case h_2 => cases h
  case h_1 xs d hps =>
  split at h
  case isFalse => cases h
  case isTrue hlen =>
  obtain ⟨hln, hlim⟩ := hlen
  obtain ⟨de, d1, d2, d3⟩ := (hE.tab _ _ ht).desc
  cases d2
  obtain ⟨ti, hte, htt⟩ : ∃ ti, E.tab e = some ti ∧ ti.ty = some te := by
    unfold Env.tyOf at hty
    split at hty
    · exact ⟨_, by assumption, hty⟩
    · cases hty
  have hto := hE.tab _ _ hte
  have hts : te.size = ti.size := (hto.ty te htt).1
  refine ⟨_, _, _, h, fun σ' look' hσ hlk k' => ?_, Sound.of fun o a w I ρ ho hre hr hf => ?_⟩
  · have := parts_loc (look' := look') (σ' := σ') parts.toList 0 xs d hps (fun q hq => hσ q.2 (by
      simp only [Op.operands]
      simp only [Array.toList_map, List.mem_map]
      exact ⟨q, hq, rfl⟩)) hlk
    simp only [List.length_map] at hln
    simp only [xop, xbuildSlice, ht, hty, this, List.length_map, hln, hlim, and_self, if_true]
  · have hn : parts.toList.length = len := by simpa using hln
    obtain ⟨I', hp, -⟩ : ∃ I', Pubd ρ I I' d ∧ True := ⟨fun b => I b ∨ ∃ i x, i ∈ d ∧ ρ i = some x ∧ x.blk = some b, ⟨fun b hb => .inl hb, fun i hi x b h1 h2 => .inr ⟨i, x, hi, h1, h2⟩⟩, trivial⟩
    have hd := (parts_fill hts hre hr parts.toList 0 xs d hps hp).1
    obtain ⟨I', hp, hpost⟩ := publish_step hre hd
    obtain ⟨-, hxl, css, k1, k2⟩ := parts_fill hts hre hr parts.toList 0 xs d hps hp
    have hfill : ∀ cells : Array Value, cells.size = len * ti.size → Instr.fill (fun i => some (i * ti.size, ti.size)) cells (parts.map fun q => (q.1, a.eval q.2)).toList = some css.flatten.toArray := by
      intro cells hc
      have := k2 cells (by rw [hc, hn, Nat.zero_add])
      simpa using this
    have hrun := run_buildSlice (P := P) d1 hto (by rw [← hts]; exact hlim) hfill w
    have hxn : xs.length = len := by rw [hxl, hn]
    have hfp := hf p _ (List.mem_append_right _ (List.mem_singleton.2 rfl)) (Nat.le_refl _)
    obtain ⟨p1, p2, p3⟩ := birth_row (gr := false) (cap := len) (rest := []) (ety := e) (w' := w.alloc (.cells css.flatten.toArray e)) hpost.real (look' := applyL look (kills d ++ [(p, .row te xs e false)])) k1 (by rw [hxn]; exact Nat.le_refl _)
      (fun _ => hxn.symm) (by rw [hxn]; simp) (fz := (0, 0)) (fun o _ h => absurd h.2 (Nat.not_lt_zero _)) hfp.2
      (fun j hj => by rw [store_upd, upd_other _ _ hj]) (by rw [store_upd, upd_same]) (by rw [List.append_nil]; rfl) rfl rfl rfl
    rw [hxn] at p1 p2 p3
    refine ⟨_, _, I', _, .inl ?_, hpost.trans p1, p2, fun i y hi => ?_⟩
    · simp only [execOp, ho, Sem.run_bind, hrun, Result.andThen_ok, Sem.run_pure]
    · rcases p3 i y hi with h | ⟨B, h⟩
      · exact .inl h
      · exact .inr ⟨B, List.mem_append_right _ h⟩
end
end Go.AM
set_option linter.unusedSimpArgs false
set_option linter.unusedVariables false
namespace Go.AM
section
variable {R : Type} {P : Program} {G : Nat} {H0 : Array Obj} {E : Env R} {σ : Operand → SV} {look : Look} {p : Nat} {k : KOp R} {r : R}

theorem fillS_ok (hE : TabOk P E) {offs : List (Nat × Nat)} {places : List (Nat × Nat)} (hpl : ∀ f off ft ti, offOf offs f = some (off, ft) → E.tab ft = some ti → places[f]? = some (off, ti.size))
    {w : World} {I : Nat → Prop} {ρ : Nat → Option Info} {a : Act} (hr : ∀ x, FR w I ρ (σ x) (a.eval x)) :
    ∀ (ps : List (Nat × Operand)) (es es' : List SV), fillS E.tab offs es (ps.map fun q => (q.1, σ q.2)) = some es' → ∀ cells : Array Value, ERs w I ρ es cells.toList →
      ∃ cells', Instr.fill (places.toArray[·]?) cells (ps.map fun q => (q.1, a.eval q.2)) = some cells' ∧ ERs w I ρ es' cells'.toList
  | [], es, es', h, cells, hc => by
    simp [fillS] at h; subst h
    exact ⟨cells, rfl, hc⟩
  | (f, x) :: ps, es, es', h, cells, hc => by
    rw [List.map_cons, fillS] at h
    split at h
    case h_2 => cases h
    case h_1 off ft ho =>
    split at h
    case h_2 => cases h
    case h_1 ev ti hev hti =>
    split at h
    case isFalse => cases h
    case isTrue hsz =>
    split at h
    case h_2 => cases h
    case h_1 es1 hes =>
    simp only at hev ho
    have h1 := entsOf_ers (hr x) hev
    have hl : (a.eval x).cells.size = ti.size := by have := h1.len; rw [hsz] at this; simpa using this
    obtain ⟨h2, h3⟩ := hc.splice h1 hes
    simp only [Array.length_toList, hl] at h2 h3
    obtain ⟨cells1, c1, c2, c3⟩ := fill_step (places.toArray[·]?) cells f (a.eval x) (ps.map fun q => (q.1, a.eval q.2)) (off := off) (size := ti.size) (by simpa using hpl f off ft ti ho hti) hl h2
    obtain ⟨cells', k1, k2⟩ := fillS_ok hE hpl hr ps es1 es' h cells1 (by rw [c1]; exact h3)
    exact ⟨cells', by rw [List.map_cons, c3, k1], k2⟩

theorem fillA_ok {t : Ty} {s : Nat} (hs : t.size = s) {w : World} {I : Nat → Prop} {ρ : Nat → Option Info} {a : Act} (hr : ∀ x, FR w I ρ (σ x) (a.eval x)) :
    ∀ (ps : List (Nat × Operand)) (xs xs' : List t.D), fillA t xs (ps.map fun q => (q.1, σ q.2)) = some xs' → ∀ (cells : Array Value) (css : List (List Value)), All2 (PR w I t) xs css → cells.toList = css.flatten →
      xs'.length = xs.length ∧ ∃ css', All2 (PR w I t) xs' css' ∧ Instr.fill (fun i => some (i * s, s)) cells (ps.map fun q => (q.1, a.eval q.2)) = some css'.flatten.toArray
  | [], xs, xs', h, cells, css, hc, hf => by
    simp [fillA] at h; subst h
    exact ⟨rfl, css, hc, by rw [← hf]; simp [Instr.fill]⟩
  | (i, x) :: ps, xs, xs', h, cells, css, hc, hf => by
    rw [List.map_cons, fillA] at h
    split at h
    case isFalse => cases h
    case isTrue hi =>
    split at h
    case h_2 => cases h
    case h_1 ev hev =>
    split at h
    case h_2 => cases h
    case h_1 y hy =>
    simp only at hev hi h
    have h1 := whole_pr hy (entsOf_ers (hr x) hev)
    have hl : (a.eval x).cells.size = s := by have := h1.len; rw [hs] at this; simpa using this
    have hlen : cells.size = css.length * s := by
      have := congrArg List.length hf
      rw [flatten_len_const (k := s) (by rw [← hs]; exact hc.lens)] at this; simpa using this
    have hcl := hc.len
    obtain ⟨c0, e1, e2, _⟩ := row_elem hc hi t.dflt
    have hin : i * s + s ≤ css.length * s := by
      have := Nat.mul_le_mul_right s (show i + 1 ≤ css.length by omega)
      rwa [Nat.add_mul, Nat.one_mul] at this
    obtain ⟨cells1, c1, c2, c3⟩ := fill_step (fun i => some (i * s, s)) cells i (a.eval x) (ps.map fun q => (q.1, a.eval q.2)) (off := i * s) (size := s) rfl hl (by omega)
    have hset := flatten_set_mid (k := s) [] [] (a.eval x).cells.toList 0 (css := css) (e := i) (c := c0) (by rw [← hs]; exact hc.lens) e1 (by simp [hl])
    simp only [List.nil_append, List.append_nil, List.length_nil, Nat.zero_add, Nat.add_zero, List.take_zero, Array.length_toList, hl] at hset
    have hd : c0.drop s = [] := List.drop_eq_nil_of_le (by rw [e2.len, hs]; exact Nat.le_refl _)
    rw [hd, List.append_nil, ← hf, ← c1] at hset
    obtain ⟨k0, css', k1, k2⟩ := fillA_ok hs hr ps (xs.set i y) xs' h cells1 (css.set i (a.eval x).cells.toList) (hc.set i h1) hset
    exact ⟨by simpa using k0, css', k1, by rw [List.map_cons, c3, k2]⟩

theorem fillS_loc {tab : Nat → Option TI} {offs : List (Nat × Nat)} {σ' : Operand → SV} (ps : List (Nat × Operand)) (h : ∀ q, q ∈ ps → σ' q.2 = σ q.2) : (ps.map fun q => (q.1, σ' q.2)) = ps.map fun q => (q.1, σ q.2) :=
  List.map_congr_left fun q hq => by rw [h q hq]

theorem build_ok (hE : TabOk P E) {t : Nat} {parts : Array (Nat × Operand)} (h : xop E (.build t parts) σ look p k = some r) : OpOk P G H0 E (.build t parts) σ look p k r := by
  simp only [xop] at h
  unfold xbuild at h
  have hmem : ∀ q, q ∈ parts.toList → q.2 ∈ (Op.build t parts).operands.toList := by
    intro q hq
    simp only [Op.operands, Array.toList_map, List.mem_map]
    exact ⟨q, hq, rfl⟩
  have hloc : ∀ (σ' : Operand → SV) (look' : Look) (k' : KOp R), (∀ z, z ∈ (Op.build t parts).operands.toList → σ' z = σ z) → xop E (.build t parts) σ' look' p k' = xbuild E t (parts.toList.map fun q => (q.1, σ q.2)) k' := by
    intro σ' look' k' hσ
    simp only [xop]
    rw [fillS_loc (tab := E.tab) (offs := []) parts.toList fun q hq => hσ q.2 (hmem q hq)]
  split at h
  case h_2 => cases h
  case h_1 ti hti =>
  have hto := hE.tab _ _ hti
  obtain ⟨d, d1, d2, d3⟩ := hto.desc
  obtain ⟨i, z, i1, i2, i3, i4, i5, i6, i7, i8⟩ := hto.info
  have hexec : ∀ (o : Oper) (a : Act) (w : World) (cs : Array Value), o.op = .build t parts → P.built t (parts.map fun q => (q.1, a.eval q.2)).toList = some cs → (execOp a.eval o).run P w = .ok (.value (.agg cs)) w := by
    intro o a w cs ho hb
    simp only [execOp, ho, Sem.run_bind, run_build w t _ cs hb, Result.andThen_ok, Sem.run_pure]
  split at h
  case h_1 offs hk =>
    split at h
    case isFalse => cases h
    case isTrue hall =>
    split at h
    case h_2 => cases h
    case h_1 es hes =>
    rw [hk] at d2
    obtain ⟨fs, rfl, hfs⟩ := d2
    have hty : ∀ f ∈ fs.toList, ∃ ti, E.tab f.type = some ti := by
      intro f hf
      have := List.all_eq_true.1 hall (f.offset, f.type) (by rw [← hfs]; exact List.mem_map.2 ⟨f, hf, rfl⟩)
      exact Option.isSome_iff_exists.1 this
    let szf : Field → Nat := fun f => match E.tab f.type with | some ti => ti.size | none => 0
    have hplaces : fs.toList.mapM (fun f => (P.info? f.type).map fun i => (f.offset, i.size)) = some (fs.toList.map fun f => (f.offset, szf f)) := by
      refine mapM_some_of_forall _ fun f hf => ?_
      obtain ⟨tf, htf⟩ := hty f hf
      obtain ⟨j, _, j1, j2, _⟩ := (hE.tab _ _ htf).info
      simp [j1, szf, htf, j2]
    refine ⟨_, _, _, h, fun σ' look' hσ hlk k' => ?_, Sound.calm fun o a w I ρ ho hre hr => ?_⟩
    · rw [hloc σ' look' k' hσ]
      simp only [xbuild, hti, hk, hall, if_true, hes]
    · obtain ⟨cells', k1, k2⟩ := fillS_ok hE (places := fs.toList.map fun f => (f.offset, szf f)) (offs := offs) (fun f off ft tf ho' htf => by
        rw [offOf, ← hfs] at ho'
        simp only [List.getElem?_map, Option.map_eq_some_iff] at ho' ⊢
        obtain ⟨g, g1, g2⟩ := ho'
        injection g2 with g3 g4
        exact ⟨g, g1, by simp only [szf, g4, htf, g3]⟩) hr parts.toList _ _ hes z.cells (i5 w I ρ)
      refine ⟨.agg cells', hexec o a w cells' ho ?_, by rw [FR]; exact ⟨_, rfl, k2⟩⟩
      simp only [Program.built, i1, d1, i4, hplaces]
      simpa using k1
  case h_2 nk e hk =>
    split at h
    case h_2 => cases h
    case h_1 te n ta xs hte hz =>
    split at h
    case isFalse => cases h
    case isTrue hsz =>
    split at h
    case h_2 => cases h
    case h_1 xs' hes =>
    rw [hk] at d2
    simp only [kindOk] at d2
    subst d2
    refine ⟨_, _, _, h, fun σ' look' hσ hlk k' => ?_, Sound.calm fun o a w I ρ ho hre hr => ?_⟩
    · rw [hloc σ' look' k' hσ]
      simp only [xbuild, hti, hk, hte, hz, hsz, if_true, hes]
    · have hz' := i5 w I ρ
      rw [hz] at hz'
      obtain ⟨l, r', f1, f2, f3⟩ := ERs.cons.1 hz'
      rw [ERs.nil] at f3; subst f3
      have f2' := CR.pv.1 f2
      rw [PR] at f2'
      obtain ⟨hn, css, k1, rfl⟩ := f2'
      rw [List.append_nil] at f1
      obtain ⟨k0, css', k2, k3⟩ := fillA_ok hsz.symm hr parts.toList _ _ hes z.cells css k1 f1
      obtain ⟨j, _, j1, j2, _⟩ := (hE.tab _ _ hte).info
      refine ⟨.agg css'.flatten.toArray, hexec o a w _ ho ?_, ?_⟩
      · simp only [Program.built, i1, d1, i4, j1, j2]
        simpa using k3
      · rw [FR]
        exact ⟨_, rfl, ERs.cons.2 ⟨_, [], (List.append_nil _).symm, CR.pv.2 (by rw [PR]; exact ⟨by rw [k0]; exact hn, _, k2, by simp⟩), ERs.nil.2 rfl⟩⟩
  case h_3 => cases h
end
end Go.AM
set_option linter.unusedSimpArgs false
set_option linter.unusedVariables false
namespace Go.AM
section
variable {R : Type} {P : Program} {G : Nat} {H0 : Array Obj} {E : Env R} {σ : Operand → SV} {look : Look} {p : Nat} {k : KOp R} {r : R}

def KeyK (kind : TypeDesc) (kt : Ty) : Prop := (∃ j l, kind = .int j ∧ kt = .int l) ∨ (kind = .string ∧ kt = .str)

theorem mapTys_inv (hE : TabOk P E) {t : Nat} {a b : Ty} (h : mapTys E t = some (a, b)) :
    ∃ kk vv ki vi kind, P.underlying t = some (.map kk vv) ∧ E.tab kk = some ki ∧ E.tab vv = some vi ∧ vi.ty = some b ∧ P.underlying kk = some kind ∧ KeyK kind a := by
  unfold mapTys at h
  split at h
  case h_2 => cases h
  case h_1 kk vv _ _ _ _ _ _ ht =>
  obtain ⟨d, d1, d2, d3⟩ := (hE.tab _ _ ht).desc
  cases d2
  split at h
  · rename_i hk hv
    simp at h; obtain ⟨rfl, rfl⟩ := h
    obtain ⟨dk, e1, e2, e3⟩ := (hE.tab _ _ hk).desc
    simp only [kindOk] at e2
    exact ⟨_, _, _, _, _, d1, hk, hv, rfl, e1, .inl ⟨_, _, e2, rfl⟩⟩
  · rename_i hk hv
    simp at h; obtain ⟨rfl, rfl⟩ := h
    obtain ⟨dk, e1, e2, e3⟩ := (hE.tab _ _ hk).desc
    simp only [kindOk] at e2
    exact ⟨_, _, _, _, _, d1, hk, hv, rfl, e1, .inr ⟨e2, rfl⟩⟩
  · cases h

theorem run_checkKey' {kk : Nat} {kind : TypeDesc} {kt : Ty} (hk : P.underlying kk = some kind) (hkk : KeyK kind kt) (b : Bool) (n : Nat) (v : Value) (w : World) : (Instr.checkKey b (n + 1) kk v).run P w = .ok () w := by
  rcases hkk with ⟨j, l, rfl, rfl⟩ | ⟨rfl, rfl⟩ <;> simp [Instr.checkKey, run_underlying hk]

theorem run_checkKey {kk : Nat} {kind : TypeDesc} {kt : Ty} (hk : P.underlying kk = some kind) (hkk : KeyK kind kt) (b : Bool) (v : Value) (w : World) : (Instr.checkKey b 10000 kk v).run P w = .ok () w := run_checkKey' hk hkk b 9999 v w

theorem run_getMap {w : World} {r : Nat} {es : Array MapEntry} {clock : Nat} (hb : w.heap[r]? = some (.map es clock)) : (getObj r).run P w = .ok (.map es clock) w := by
  simp [getObj, Sem.run, hb]
theorem run_setMap {w : World} {r : Nat} {es : Array MapEntry} {clock : Nat} (o : Obj) (hb : w.heap[r]? = some (.map es clock)) : (setObj r o).run P w = .ok () { w with heap := w.heap.setIfInBounds r o } := by
  simp [setObj, Sem.run, hb]

theorem bytes_eq {a b : List UInt8} : ((⟨a.toArray⟩ : ByteArray) == ⟨b.toArray⟩) = decide (a = b) := by
  have key : ∀ x y : ByteArray, (x == y) = decide (x.data = y.data) := fun x y => by
    show (x.data == y.data) = _
    by_cases h : x.data = y.data <;> simp [h]
  rw [key]
  by_cases h : a = b <;> simp [h]

theorem sameNow_key {kind : TypeDesc} {kt : Ty} (hk : KeyK kind kt) {eq : kt.D → kt.D → Bool} (he : keyEq kt = some eq) {w : World} {I : Nat → Prop} {x y : kt.D} {v u : Value} (hv : PR w I kt x [v]) (hu : PR w I kt y [u]) :
    Instr.sameNow kind v u = some (eq x y) := by
  rcases hk with ⟨j, l, rfl, rfl⟩ | ⟨rfl, rfl⟩
  · rw [PR] at hv hu; simp at hv hu; subst hv; subst hu
    simp [keyEq] at he; subst he
    simp only [Instr.sameNow, if_true, Option.some.injEq]
    change Int at x y
    by_cases h : x = y
    · subst h; simp
    · simp [h]
  · rw [PR] at hv hu; simp at hv hu; subst hv; subst hu
    simp [keyEq] at he; subst he
    simp only [Instr.sameNow, bytes_eq]

theorem same_key {kind : TypeDesc} {kt : Ty} (hk : KeyK kind kt) {eq : kt.D → kt.D → Bool} (he : keyEq kt = some eq) {w : World} {I : Nat → Prop} {x y : kt.D} {v u : Value} (hv : PR w I kt x [v]) (hu : PR w I kt y [u]) (h : eq x y = true) : u = v ∧ Instr.sameBits 10000 u v = true := by
  rcases hk with ⟨j, l, rfl, rfl⟩ | ⟨rfl, rfl⟩
  · rw [PR] at hv hu; simp at hv hu; subst hv; subst hu
    simp [keyEq] at he; subst he
    simp at h; subst h
    simp [Instr.sameBits, bytes_eq]
  · rw [PR] at hv hu; simp at hv hu; subst hv; subst hu
    simp [keyEq] at he; subst he
    simp at h; subst h
    simp [Instr.sameBits, bytes_eq]

def EntR (w : World) (I : Nat → Prop) (kt vt : Ty) (e : kt.D × vt.D) (m : MapEntry) : Prop := PR w I kt e.1 [m.key] ∧ TV w I vt e.2 m.val

theorem findNow_ok {kind : TypeDesc} {kt vt : Ty} (hk : KeyK kind kt) {eq : kt.D → kt.D → Bool} (he : keyEq kt = some eq) {w : World} {I : Nat → Prop} {x : kt.D} {v : Value} (hv : PR w I kt x [v]) :
    ∀ (es : List (kt.D × vt.D)) (ms : List MapEntry) (i : Nat), All2 (EntR w I kt vt) es ms →
      (∃ n m y, Instr.findNow kind v ms i = some (some (i + n, m.val)) ∧ ms[n]? = some m ∧ mget eq es x = some y ∧ TV w I vt y m.val ∧ m.key = v ∧ Instr.sameBits 10000 m.key v = true ∧ ∀ z, mset eq es x z = es.set n (x, z)) ∨
      (Instr.findNow kind v ms i = some none ∧ mget eq es x = none ∧ ∀ z, mset eq es x z = es ++ [(x, z)])
  | [], [], i, _ => .inr ⟨rfl, rfl, fun z => rfl⟩
  | e :: es, m :: ms, i, h => by
    have hs := sameNow_key hk he hv h.1.1
    cases hb : eq x e.1 with
    | true =>
      refine .inl ⟨0, m, e.2, ?_, rfl, by simp [mget, hb], h.1.2, (same_key hk he hv h.1.1 hb).1, (same_key hk he hv h.1.1 hb).2, fun z => by simp [mset, hb]⟩
      simp [Instr.findNow, hs, hb]
    | false =>
      rcases findNow_ok hk he hv es ms (i + 1) h.2 with ⟨n, m', y, h1, h2, h3, h4, h5, h6, h7⟩ | ⟨h1, h2, h3⟩
      · refine .inl ⟨n + 1, m', y, ?_, by simpa using h2, by simp [mget, hb, h3], h4, h5, h6, fun z => by simp [mset, hb, h7]⟩
        simp only [Instr.findNow, hs, hb, h1]
        congr 3; omega
      · exact .inr ⟨by simp [Instr.findNow, hs, hb, h1], by simp [mget, hb, h2], fun z => by simp [mset, hb, h3]⟩
  | [], _ :: _, _, h => h.elim
  | _ :: _, [], _, h => h.elim

theorem TV.zero {e : Nat} {te : TI} {T : Ty} (hte : TIok P e te) (hT : te.ty = some T) (w : World) (I : Nat → Prop) : ∃ z, TV w I T T.dflt z ∧ ∀ w, (zeroValue e).run P w = .ok z w := by
  obtain ⟨i, z, i1, i2, i3, i4, i5, i6, i7, i8⟩ := hte.info
  obtain ⟨h1, h2, i', z', j1, j2, j3⟩ := hte.ty T hT
  rw [i1] at j1; cases j1
  rw [i4] at j2; cases j2
  exact ⟨z, ⟨j3 w I, fun h => i6 (by rw [← h2]; exact h), fun h => i7 (by rw [← h2]; exact h)⟩, fun w => by simp [zeroValue, typeInfo, i1, i4]⟩

theorem TV.fr {w : World} {I : Nat → Prop} {ρ : Nat → Option Info} {T : Ty} {x : T.D} {v : Value} (h : TV w I T x v) : FR w I ρ (match T.isAgg with | true => .agg (flat T x) | false => .pv T x) v := by
  obtain ⟨h1, h2, h3⟩ := h
  cases ha : T.isAgg with
  | true =>
    obtain ⟨cs, rfl⟩ := h2 ha
    simp only [FR]
    exact ⟨cs, rfl, flat_ers h1⟩
  | false =>
    have := cells_one (h3 ha)
    rw [this] at h1
    simp only [FR]; exact h1

theorem one_fr {w : World} {I : Nat → Prop} {ρ : Nat → Option Info} {t : Ty} {e : SV} {x : t.D} {v : Value} (h : one t e = some x) (hv : FR w I ρ e v) (hag : t.isAgg = false) : PR w I t x [v] := by
  cases e with
  | pv t' x' =>
    obtain ⟨rfl, rfl⟩ := castTy_eq (a := t') (b := t) (x := x') h
    rw [FR] at hv; exact hv
  | nils =>
    rw [FR] at hv; subst hv
    cases t <;> simp [one] at h
    subst h; rw [PR]; exact .inl ⟨rfl, _, _, rfl⟩
  | emp =>
    rw [FR] at hv; obtain ⟨p, rfl⟩ := hv
    cases t <;> simp [one] at h
    subst h; rw [PR]; exact .inl ⟨rfl, _, _, rfl⟩
  | nilp =>
    rw [FR] at hv; subst hv
    cases t <;> simp [one] at h
    subst h; rw [PR]
  | nili =>
    rw [FR] at hv; subst hv
    cases t <;> simp [one] at h
    subst h; rw [PR]
  | _ => simp [one] at h

theorem KeyK.notAgg {kind : TypeDesc} {kt : Ty} (h : KeyK kind kt) : kt.isAgg = false := by
  rcases h with ⟨j, l, rfl, rfl⟩ | ⟨rfl, rfl⟩ <;> rfl

theorem lookup_ok (hE : TabOk P E) {t : Nat} {x ix : Operand} {ok : Bool} (h : xop E (.lookup t x ix ok) σ look p k = some r) : OpOk P G H0 E (.lookup t x ix ok) σ look p k r := by
  simp only [xop] at h
  have ha : ∀ σ' : Operand → SV, (∀ z, z ∈ (Op.lookup t x ix ok).operands.toList → σ' z = σ z) → σ' x = σ x ∧ σ' ix = σ ix :=
    fun σ' hσ => ⟨hσ x (by simp [Op.operands]), hσ ix (by simp [Op.operands])⟩
  unfold xlookup at h
  split at h
  case h_1 => cases h
  case h_2 a b hab =>
  split at h
  case h_2 => cases h
  case h_1 i hx =>
  split at h
  case h_2 => cases h
  case h_1 kt vt es hl =>
  split at h
  case isFalse => cases h
  case isTrue hty =>
  obtain ⟨rfl, rfl⟩ := hty
  split at h
  case h_2 => cases h
  case h_1 key eq hkey heq =>
  obtain ⟨kk, vv, ki, vi, kind, m1, m2, m3, m4, m5, m6⟩ := mapTys_inv hE hab
  have main : ∀ (o : Oper) (ac : Act) (w : World) (I : Nat → Prop) (ρ : Nat → Option Info), o.op = .lookup t x ix ok → Real G H0 w I ρ look → (∀ z, FR w I ρ (σ z) (ac.eval z)) →
      ∃ v, TV w I b ((mget eq es key).getD b.dflt) v ∧ (execOp ac.eval o).run P w = .ok (.value (if ok then .tuple #[v, .bool (mget eq es key).isSome] else v)) w := by
    intro o ac w I ρ ho hre hr
    have hv := hr x; rw [hx, FR] at hv
    obtain ⟨y, bb, h1, h2, h3⟩ := hv
    have hb := hre.blk i; rw [hl] at hb
    obtain ⟨y', b', ents, clock, g1, g2, g3, g4⟩ := hb
    rw [h1] at g1; cases g1; rw [h2] at g2; cases g2
    have hkv := one_fr hkey (hr ix) m6.notAgg
    have hrun : ∀ rr, Instr.findNow kind (ac.eval ix) ents.toList 0 = some rr → (Instr.findKey kk (ac.eval ix) ents.toList).run P w = .ok rr w := by
      intro rr hrr
      simp [Instr.findKey, run_underlying m5, hrr]
    rcases findNow_ok m6 heq hkv es ents.toList 0 g4 with ⟨n, m, z, f1, f2, f3, f4, f5, f6, f7⟩ | ⟨f1, f2, f3⟩
    · refine ⟨m.val, by rw [f3]; exact f4, ?_⟩
      simp only [execOp, ho, Instr.lookup, run_underlying m1, Sem.run_bind, Result.andThen_ok, h3, run_getMap g3, Sem.run_pure, run_checkKey m5 m6, hrun _ f1]
      cases ok <;> simp [f3]
    · obtain ⟨z, z1, z2⟩ := TV.zero (hE.tab _ _ m3) m4 w I
      refine ⟨z, by rw [f2]; exact z1, ?_⟩
      simp only [execOp, ho, Instr.lookup, run_underlying m1, Sem.run_bind, Result.andThen_ok, h3, run_getMap g3, Sem.run_pure, run_checkKey m5 m6, hrun _ f1, z2]
      cases ok <;> simp [f2]
  refine ⟨_, _, _, h, fun σ' look' hσ hlk k' => ?_, Sound.calm fun o ac w I ρ ho hre hr => ?_⟩
  · obtain ⟨e1, e2⟩ := ha σ' hσ
    simp only [xop, e1, e2, xlookup, hab, hx, hlk i (by simp), hl, and_self, if_true, hkey, heq]
  · obtain ⟨v, hv1, hv2⟩ := main o ac w I ρ ho hre hr
    have hv3 := hv1.fr (ρ := ρ)
    refine ⟨_, hv2, ?_⟩
    cases ok with
    | false =>
      simp only [lkV]
      cases hag : b.isAgg <;> rw [hag] at hv3 <;> simpa [hag] using hv3
    | true =>
      simp only [lkV, if_true]
      rw [FR]
      refine ⟨_, rfl, ?_⟩
      rw [FRs]
      refine ⟨_, _, rfl, by cases hag : b.isAgg <;> rw [hag] at hv3 <;> simpa [hag] using hv3, ?_⟩
      rw [FRs]
      refine ⟨_, _, rfl, FR.bool_mk, ?_⟩
      rw [FRs]

theorem mapUpdate_main (hE : TabOk P E) {t : Nat} {m key v : Operand} {op : Op} (hop : op = .mapUpdate t m key v ∨ op = .insert t m key v) (h : xop E op σ look p k = some r) : OpOk P G H0 E op σ look p k r := by
  have hx : ∀ (σ' : Operand → SV) (look' : Look) (k' : KOp R), xop E op σ' look' p k' = xmapUpdate E t look' (σ' m) (σ' key) (σ' v) k' := by
    rcases hop with rfl | rfl <;> intros <;> rfl
  have hexec : ∀ (o : Oper) (a : Act) (w w' : World), o.op = op → (Instr.mapUpdate t (a.eval m) (a.eval key) (a.eval v)).run P w = .ok () w' → (execOp a.eval o).run P w = .ok .skip w' := by
    intro o a w w' ho hrun
    rcases hop with rfl | rfl <;> simp [execOp, ho, hrun]
  have ha : ∀ σ' : Operand → SV, (∀ z, z ∈ op.operands.toList → σ' z = σ z) → σ' m = σ m ∧ σ' key = σ key ∧ σ' v = σ v := by
    rcases hop with rfl | rfl
    · exact fun σ' hσ => ⟨hσ m (by simp [Op.operands]), hσ key (by simp [Op.operands]), hσ v (by simp [Op.operands])⟩
    · exact fun σ' hσ => ⟨hσ m (by simp [Op.operands]), hσ key (by simp [Op.operands]), hσ v (by simp [Op.operands])⟩
  rw [hx] at h
  unfold xmapUpdate at h
  split at h
  case h_1 => cases h
  case h_2 a b hab =>
  split at h
  case h_2 => cases h
  case h_1 i hm =>
  split at h
  case h_2 => cases h
  case h_1 kt vt es hl =>
  split at h
  case isFalse => cases h
  case isTrue hty =>
  obtain ⟨rfl, rfl, hag⟩ := hty
  split at h
  case h_2 => cases h
  case h_1 ky eq ev hkey heq hev =>
  split at h
  case h_2 => cases h
  case h_1 y hy =>
  obtain ⟨kk, vv, ki, vi, kind, m1, m2, m3, m4, m5, m6⟩ := mapTys_inv hE hab
  refine ⟨_, _, _, h, fun σ' look' hσ hlk k' => ?_, Sound.of fun o ac w I ρ ho hre hr hf => ?_⟩
  · obtain ⟨e1, e2, e3⟩ := ha σ' hσ
    rw [hx]
    simp only [xmapUpdate, e1, e2, e3, hab, hm, hlk i (by simp), hl, hag, and_self, if_true, hkey, heq, hev, hy]
  · have hv := hr m; rw [hm, FR] at hv
    obtain ⟨x, bb, h1, h2, h3⟩ := hv
    have hb := hre.blk i; rw [hl] at hb
    obtain ⟨y', b', ents, clock, g1, g2, g3, g4⟩ := hb
    rw [h1] at g1; cases g1; rw [h2] at g2; cases g2
    have hkv := one_fr hkey (hr key) m6.notAgg
    have hpr : PR w I b y (ac.eval v).cells.toList := whole_pr hy (entsOf_ers (hr v) hev)
    have htv : TV w I b y (ac.eval v) := by
      refine ⟨hpr, fun hA => ?_, fun hA => ?_⟩
      · rw [hA] at hag
        cases hsv : σ v with
        | agg es' => have := hr v; rw [hsv, FR] at this; obtain ⟨cs, h, _⟩ := this; exact ⟨cs, h⟩
        | _ => rw [hsv] at hag; simp [isAggV] at hag
      · rw [hA] at hag
        rcases (hr v).one hev with ⟨es', he'⟩ | h
        · rw [he'] at hag; simp [isAggV] at hag
        · exact h
    have hob := hre.own bb ⟨i, x, by rw [hl]; simp, h1, h2⟩
    have hrunf : ∀ rr, Instr.findNow kind (ac.eval key) ents.toList 0 = some rr → (Instr.findKey kk (ac.eval key) ents.toList).run P w = .ok rr w := by
      intro rr hrr
      simp [Instr.findKey, run_underlying m5, hrr]
    have fin : ∀ (ents' : Array MapEntry) (clock' : Nat), All2 (EntR w I a b) (mset eq es ky y) ents'.toList → (Instr.mapUpdate t (ac.eval m) (ac.eval key) (ac.eval v)).run P w = .ok () ({ w with heap := w.heap.setIfInBounds bb (.map ents' clock') } : World) →
        ∃ x_1 w' I' ρ', ((execOp ac.eval o).run P w = .ok (.value x_1) w' ∨ (execOp ac.eval o).run P w = .ok .skip w' ∧ x_1 = undef) ∧ OpPost G H0 w I ρ look .undef [(i, .map a b (mset eq es ky y))] x_1 w' I' ρ' := by
      intro ents' clock' hA hrun
      have hoth : ∀ c, c ≠ bb → ({ w with heap := w.heap.setIfInBounds bb (.map ents' clock') } : World).heap[c]? = w.heap[c]? := fun c hc => by
        simp [Array.getElem?_setIfInBounds, Ne.symm hc]
      have hself : ({ w with heap := w.heap.setIfInBounds bb (.map ents' clock') } : World).heap[bb]? = some (.map ents' clock') := by
        simp [hob.1]
      have hst : Stay w I ({ w with heap := w.heap.setIfInBounds bb (.map ents' clock') } : World) I := fun c hc => ⟨hc, hoth c fun e => hob.2.1 (e ▸ hc)⟩
      refine ⟨undef, _, I, ρ, .inr ⟨hexec o ac w _ ho hrun, rfl⟩, ?_, by rw [FR], fun i y h => .inl h⟩
      refine hre.write (i := i) (by rw [hl]; simp) h1 h2 (fun j hj => by rw [upd_applyL, upd_other _ _ hj]) (by simp) hoth ?_ rfl rfl rfl
      rw [upd_applyL, upd_same]
      exact ⟨x, bb, ents', clock', h1, h2, hself, hA.mono fun _ _ h => ⟨h.1.mono hst, h.2.mono hst⟩⟩
    rcases findNow_ok m6 heq hkv es ents.toList 0 g4 with ⟨n, me, z, f1, f2, f3, f4, f5, f6, f7⟩ | ⟨f1, f2, f3⟩
    · rw [Nat.zero_add] at f1
      have f2' : ents[n]? = some me := by rw [← Array.getElem?_toList]; exact f2
      refine fin (ents.modify n fun e => { e with key := ac.eval key, val := ac.eval v }) clock ?_ ?_
      · rw [f7 y]
        have : (ents.modify n fun e => { e with key := ac.eval key, val := ac.eval v }).toList = ents.toList.set n { me with key := ac.eval key, val := ac.eval v } := by
          apply List.ext_getElem?
          intro j
          rw [Array.getElem?_toList, Array.getElem?_modify, List.getElem?_set]
          by_cases e : n = j
          · subst e
            have : n < ents.toList.length := (List.getElem?_eq_some_iff.1 f2).1
            simp [f2']
            simpa using this
          · simp [e]
        rw [this]
        exact All2.set n g4 ⟨hkv, htv⟩
      · simp only [Instr.mapUpdate, run_underlying m1, Sem.run_bind, Result.andThen_ok, h3, run_getMap g3, run_checkKey m5 m6, hrunf _ f1, Instr.keyThatStays, f2', Option.map_some, Option.getD_some, f6, if_true, Sem.run_pure, run_setMap _ g3]
    · refine fin (ents.push { key := ac.eval key, val := ac.eval v, born := clock }) (clock + 1) ?_ ?_
      · rw [f3 y]
        simp only [Array.toList_push]
        exact g4.append ⟨⟨hkv, htv⟩, trivial⟩
      · simp only [Instr.mapUpdate, run_underlying m1, Sem.run_bind, Result.andThen_ok, h3, run_getMap g3, run_checkKey m5 m6, hrunf _ f1, Sem.run_pure, run_setMap _ g3]
end
end Go.AM
set_option linter.unusedSimpArgs false
set_option linter.unusedVariables false
namespace Go.AM
section
variable {R : Type} {P : Program} {G : Nat} {H0 : Array Obj} {E : Env R} {σ : Operand → SV} {look : Look} {p : Nat} {k : KOp R} {r : R}

theorem xop_ok (hE : EnvOk P G H0 E) {op : Op} (h : xop E op σ look p k = some r) : OpOk P G H0 E op σ look p k r := by
  cases op with
  | move x => exact move_ok h
  | assign x => exact assign_ok h
  | pick c a b => exact pick_ok h
  | alloc t => exact alloc_ok hE.toTabOk h
  | box t x => exact box_ok hE.toTabOk h
  | build t ps => exact build_ok hE.toTabOk h
  | buildSlice t l ps => exact buildSlice_ok hE.toTabOk h
  | load t a => exact load_ok hE.toTabOk h
  | store t a v => exact store_ok hE.toTabOk h
  | nilCheck x => exact nilCheck_ok h
  | binOp op t x y u => exact binOp_ok hE.toTabOk h
  | unOp op t x => exact unOp_ok h
  | convert s d x => exact convert_ok hE.toTabOk h
  | makeFunc f a c => exact makeFunc_ok h
  | makeMap t x => exact makeMap_ok h
  | makeSlice t l c => exact makeSlice_ok hE.toTabOk h
  | slice t x lo hi mx => exact slice_ok hE.toTabOk h
  | fieldAddr s x f => exact fieldAddr_ok hE.toTabOk h
  | field t x f => exact field_ok hE.toTabOk h
  | indexAddr t x ix => exact indexAddr_ok hE.toTabOk h
  | index t x ix => exact index_ok hE.toTabOk h
  | lookup t x ix ok => exact lookup_ok hE.toTabOk h
  | mapUpdate t m key v => exact mapUpdate_main hE.toTabOk (.inl rfl) h
  | insert t m key v => exact mapUpdate_main hE.toTabOk (.inr rfl) h
  | extract t ix => exact extract_ok h
  | call c =>
    obtain ⟨callee, args, ats⟩ := c
    cases callee with
    | invoke r n => simp [xop] at h
    | value f => exact call_ok hE h
    | builtin b =>
      cases b with
      | append => exact append_ok hE.toTabOk h
      | len => exact len_ok hE.toTabOk h
      | copy => exact copy_ok hE.toTabOk h
      | min => exact min_ok h
      | max => exact max_ok h
      | _ => simp [xop, xbuiltin] at h
  | _ => simp [xop] at h
end
end Go.AM
set_option linter.unusedSimpArgs false
set_option linter.unusedVariables false
namespace Go.AM

structure St where
  o : Oper
  v : SV
  δ : Delta
  τ : List Nat
  p : Nat
  ran : Bool

def foldT {α : Type} (g : α → St → α) (T : Nat → Bool) : Nat → List St → α → α
  | _, [], a => a
  | n, st :: r, a => foldT g T (n + 1) r (if T n then g a st else a)

theorem foldT_congr {α : Type} {g : α → St → α} {T T' : Nat → Bool} : ∀ (l : List St) (n : Nat) (a : α), (∀ m st, l[m]? = some st → T (n + m) = T' (n + m) ∨ ∀ a, g a st = a) → foldT g T n l a = foldT g T' n l a
  | [], _, _, _ => rfl
  | st :: l, n, a, h => by
    have h0 := h 0 st rfl
    simp only [Nat.add_zero] at h0
    have e : (if T n then g a st else a) = if T' n then g a st else a := by
      rcases h0 with h0 | h0
      · rw [h0]
      · rw [h0]; simp
    rw [foldT, foldT, e]
    exact foldT_congr l (n + 1) _ fun m st' hm => by
      have := h (m + 1) st' (by simpa using hm)
      rwa [show n + (m + 1) = n + 1 + m by omega] at this

theorem foldT_id {α : Type} {g : α → St → α} {T : Nat → Bool} : ∀ (l : List St) (n : Nat) (a : α), (∀ m st, l[m]? = some st → T (n + m) = true → ∀ a, g a st = a) → foldT g T n l a = a
  | [], _, _, _ => rfl
  | st :: l, n, a, h => by
    have e : (if T n then g a st else a) = a := by
      split
      · exact h 0 st rfl (by simpa using (by assumption)) a
      · rfl
    rw [foldT, e]
    exact foldT_id l (n + 1) _ fun m st' hm ht => h (m + 1) st' (by simpa using hm) (by rwa [show n + (m + 1) = n + 1 + m by omega])

theorem foldT_ins {α : Type} {g : α → St → α} {T : Nat → Bool} {st : St} : ∀ (l : List St) (n i : Nat) (a : α), l[i]? = some st →
    (∀ m st', l[m]? = some st' → i < m → T (n + m) = true → ∀ a, g a st' = a) → T (n + i) = false → foldT g (fun m => T m || m == n + i) n l a = g (foldT g T n l a) st
  | [], n, i, a, hi, _, _ => by simp at hi
  | s0 :: l, n, 0, a, hi, h, hT => by
    simp at hi; subst hi
    simp only [Nat.add_zero] at hT
    have e : ∀ m, m ≠ n → (T m || m == n) = T m := fun m hm => by simp [hm]
    rw [foldT, foldT]
    simp only [Nat.add_zero, hT, beq_self_eq_true, Bool.or_true, if_true, Bool.false_eq_true, if_false]
    rw [foldT_congr (T' := T) l (n + 1) _ fun m st' _ => .inl (e _ (by omega))]
    have hid : ∀ m st', l[m]? = some st' → T (n + 1 + m) = true → ∀ a, g a st' = a := fun m st' hm ht =>
      h (m + 1) st' (by simpa using hm) (by omega) (by rwa [show n + (m + 1) = n + 1 + m by omega])
    rw [foldT_id l (n + 1) _ hid, foldT_id l (n + 1) _ hid]
  | s0 :: l, n, i + 1, a, hi, h, hT => by
    have e : (T n || n == n + (i + 1)) = T n := by
      have : (n == n + (i + 1)) = false := by simp
      rw [this, Bool.or_false]
    rw [foldT, foldT, e, show n + (i + 1) = n + 1 + i by omega]
    exact foldT_ins l (n + 1) i _ (by simpa using hi) (fun m st' hm hlt ht => h (m + 1) st' (by simpa using hm) (by omega) (by rwa [show n + (m + 1) = n + 1 + m by omega]))
      (by rwa [show n + 1 + i = n + (i + 1) by omega])

theorem foldT_take {α : Type} {g : α → St → α} : ∀ (l : List St) (n i : Nat) (a : α), foldT g (fun m => decide (m < n + i)) n l a = (l.take i).foldl g a
  | [], _, i, _ => by simp [foldT]
  | st :: l, n, 0, a => by
    rw [foldT_id]
    · simp
    · intro m st' _ h; simp at h; omega
  | st :: l, n, i + 1, a => by
    rw [foldT]
    simp only [show n < n + (i + 1) from by omega, decide_true, if_true, List.take_succ_cons, List.foldl_cons]
    rw [← foldT_take l (n + 1) i, show n + (i + 1) = n + 1 + i by omega]

def gs (N t : Nat) (v : SV) (st : St) : SV := if st.o.dst = some t ∧ t < N then st.v else v

def gl (i : Nat) (B : Blk) (st : St) : Blk := applyL (fun _ => B) st.δ i

theorem applyL_point : ∀ (δ : Delta) (look : Look) (i : Nat), applyL look δ i = applyL (fun _ => look i) δ i
  | [], _, _ => rfl
  | q :: δ, look, i => by
    show applyL (upd look q.1 q.2) δ i = applyL (upd (fun _ => look i) q.1 q.2) δ i
    rw [applyL_point δ (upd look q.1 q.2) i, applyL_point δ (upd (fun _ => look i) q.1 q.2) i]
    congr 1

theorem applyL_mem : ∀ (δ : Delta) (look : Look) (i : Nat), i ∉ δ.map (·.1) → applyL look δ i = look i
  | [], _, _, _ => rfl
  | q :: δ, look, i, h => by
    simp only [List.map_cons, List.mem_cons, not_or] at h
    show applyL (upd look q.1 q.2) δ i = look i
    rw [applyL_mem δ _ i h.2, upd_other _ _ h.1]

theorem gl_id {i : Nat} {st : St} (h : i ∉ st.δ.map (·.1)) (B : Blk) : gl i B st = B := applyL_mem _ _ _ h
theorem gs_id {N t : Nat} {st : St} (h : st.o.dst ≠ some t) (v : SV) : gs N t v st = v := by simp [gs, h]

def slotT (N : Nat) (sts : List St) (T : Nat → Bool) (s0 : Nat → SV) (t : Nat) : SV := foldT (gs N t) T 0 sts (s0 t)
def lookT (sts : List St) (T : Nat → Bool) (l0 : Look) (i : Nat) : Blk := foldT (gl i) T 0 sts (l0 i)

def evF (s : Nat → SV) : Operand → SV
  | .tmp t => s t
  | .const v => svOf v
  | .func f => .fn f []
  | .global _ => .dead

theorem ev_evF (fr : List SV) : ev fr = evF fun t => fr.getD t .dead := by
  funext x; cases x <;> rfl

def slotF (all : List Oper) (s : Nat → SV) (j : Nat) : SV := match all[j]? with
  | some o => match o.dst with
    | some d => s d
    | none => .dead
  | none => .dead

theorem slotOf_F (all : List Oper) (fr : List SV) (j : Nat) : slotOf all fr j = slotF all (fun t => fr.getD t .dead) j := rfl

def gOk (all : List Oper) (s : Nat → SV) (o : Oper) : Option Bool := match o.guard with
  | none => some true
  | some (j, want) => match slotF all s j with
    | .pv .bool b => some (match want with | true => b | false => !b)
    | .undef => some false
    | _ => none

theorem gOk_congr {all : List Oper} {s s' : Nat → SV} {o : Oper} (h : ∀ t, t ∈ gslot all o.guard → s' t = s t) : gOk all s' o = gOk all s o := by
  unfold gOk
  split
  · rfl
  · rename_i j want hg
    have : slotF all s' j = slotF all s j := by
      unfold slotF
      split
      · rename_i o' ho'
        split
        · rename_i d hd
          refine h d ?_
          simp [gslot, hg, ho', hd]
        · rfl
      · rfl
    rw [this]

section
variable {R : Type}

def StepOk (E : Env R) (all : List Oper) (s : Nat → SV) (look : Look) (st : St) : Prop :=
  gOk all s st.o = some st.ran ∧
  (st.ran = true → ∀ (σ' : Operand → SV) (look' : Look), (∀ x, x ∈ st.o.op.operands.toList → σ' x = evF s x) → (∀ i, i ∈ st.τ → look' i = look i) →
    ∀ k' : KOp R, xop E st.o.op σ' look' st.p k' = k' st.v st.δ st.τ) ∧
  (st.ran = false → st.v = .undef ∧ st.δ = [] ∧ st.τ = [])

def St.rs (all : List Oper) (st : St) : List Nat := gslot all st.o.guard ++ slotsOf st.o.op.operands.toList

theorem StepOk.congr {E : Env R} {all : List Oper} {s s' : Nat → SV} {look look' : Look} {st : St} (h : StepOk E all s look st) (hs : ∀ t, t ∈ st.rs all → s' t = s t)
    (hl : ∀ i, i ∈ st.τ → look' i = look i) : StepOk E all s' look' st := by
  obtain ⟨h1, h2, h3⟩ := h
  refine ⟨by rw [gOk_congr fun t ht => hs t (List.mem_append_left _ ht)]; exact h1, fun hr σ' l' hσ hl' k' => h2 hr σ' l' (fun x hx => ?_) (fun i hi => by rw [hl' i hi, hl i hi]) k', h3⟩
  rw [hσ x hx]
  cases x with
  | tmp t =>
    refine hs t (List.mem_append_right _ ?_)
    simp only [slotsOf, List.mem_filterMap]
    exact ⟨.tmp t, hx, rfl⟩
  | _ => rfl

structure Apart (all : List Oper) (a b : St) : Prop where
  ww : ∀ i, i ∈ a.δ.map (·.1) → i ∉ b.δ.map (·.1)
  wr : ∀ i, i ∈ a.δ.map (·.1) → i ∉ b.τ
  rw : ∀ i, i ∈ b.δ.map (·.1) → i ∉ a.τ
  sww : ∀ t, a.o.dst = some t → b.o.dst ≠ some t
  swr : ∀ t, a.o.dst = some t → t ∉ b.rs all
  srw : ∀ t, b.o.dst = some t → t ∉ a.rs all

theorem Apart.symm {all : List Oper} {a b : St} (h : Apart all a b) : Apart all b a :=
  ⟨fun i hi ha => h.ww i ha hi, h.rw, h.wr, fun t ht ha => h.sww t ha ht, h.srw, h.swr⟩

structure Run (E : Env R) (all : List Oper) (N : Nat) (s0 : Nat → SV) (hp0 : List Blk) (sts : List St) : Prop where
  ops : sts.map (·.o) = all
  ok : ∀ (i : Nat) (st : St), sts[i]? = some st → StepOk E all (slotT N sts (fun m => decide (m < i)) s0) (lookT sts (fun m => decide (m < i)) (blkOf hp0)) st
  base : ∀ (i : Nat) (st : St), sts[i]? = some st → hp0.length ≤ st.p
  low : ∀ (i j : Nat) (st st' : St), sts[i]? = some st → sts[j]? = some st' → i < j → ∀ q, q ∈ st.δ.map (·.1) → q < st'.p

variable {P : Program} {G : Nat} {H0 : Array Obj} {E : Env R}

structure RelT (P : Program) (G : Nat) (H0 : Array Obj) (N : Nat) (s0 : Nat → SV) (hp0 : List Blk) (sts : List St) (T : Nat → Bool) (w0 : World) (I0 : Nat → Prop) (ρ0 : Nat → Option Info)
    (a : Act) (w : World) (I : Nat → Prop) (ρ : Nat → Option Info) : Prop where
  size : a.tmps.size = N
  defers : a.defers = []
  slots : ∀ t, t < N → FR w I ρ (slotT N sts T s0 t) (a.tmps.getD t undef)
  dom : ∀ i y, ρ i = some y → i < hp0.length ∨ ∃ m st, sts[m]? = some st ∧ T m = true ∧ i ∈ st.δ.map (·.1)
  post : Post G H0 w0 I0 ρ0 (blkOf hp0) w I ρ (lookT sts T (blkOf hp0))

theorem FR.const {w : World} {I : Nat → Prop} {ρ : Nat → Option Info} (v : Value) : FR w I ρ (svOf v) v := by
  unfold svOf
  split
  · exact FR.int_mk
  · exact FR.bool_mk
  · rw [FR, PR]
  · rw [FR]
  · rw [FR]
  · rw [FR]
  · rw [FR]
  · rw [FR]
  · split
    · rename_i h1 h2
      rw [FR]; refine ⟨#[], ?_, by simp [FRs]⟩
      have e1 := Array.toList_eq_nil_iff.1 h1
      have e2 := Array.toList_eq_nil_iff.1 h2
      rw [e1, e2]
    · rw [FR]; trivial
  · split
    · rename_i h1
      rw [FR]
      rw [Array.toList_eq_nil_iff.1 h1]; rfl
    · rw [FR]; trivial
  · rw [FR]; trivial
end
end Go.AM
set_option linter.unusedSimpArgs false
set_option linter.unusedVariables false
namespace Go.AM
section
variable {R : Type} {P : Program} {G : Nat} {H0 : Array Obj} {E : Env R}

theorem slotT_dead {N : Nat} {sts : List St} {T : Nat → Bool} {s0 : Nat → SV} {t : Nat} (ht : N ≤ t) : slotT N sts T s0 t = s0 t :=
  foldT_id _ _ _ fun m st _ _ v => by simp [gs, show ¬ t < N by omega]

theorem RelT.fr {N : Nat} {s0 : Nat → SV} {hp0 : List Blk} {sts : List St} {T : Nat → Bool} {w0 : World} {I0 : Nat → Prop} {ρ0 : Nat → Option Info} {a : Act} {w : World} {I : Nat → Prop} {ρ : Nat → Option Info}
    (hs0 : ∀ t, N ≤ t → s0 t = .dead) (h : RelT P G H0 N s0 hp0 sts T w0 I0 ρ0 a w I ρ) (x : Operand) : FR w I ρ (evF (slotT N sts T s0) x) (a.eval x) := by
  cases x with
  | tmp t =>
    simp only [evF, Act.eval]
    by_cases ht : t < N
    · exact h.slots t ht
    · rw [slotT_dead (Nat.le_of_not_lt ht), hs0 t (Nat.le_of_not_lt ht), FR]; trivial
  | const v => exact FR.const v
  | func f => simp only [evF, Act.eval]; rw [FR]; exact ⟨#[], rfl, by simp [FRs]⟩
  | global g => simp only [evF]; rw [FR]; trivial

theorem wanted_ok {ops : Array Oper} {N : Nat} {s : Nat → SV} {w : World} {I : Nat → Prop} {ρ : Nat → Option Info} {a : Act} (hsz : a.tmps.size = N) (hd : ∀ t, N ≤ t → s t = .dead) (hfr : ∀ t, t < N → FR w I ρ (s t) (a.tmps.getD t undef))
    {o : Oper} {b : Bool} (h : gOk ops.toList s o = some b) : Region.wanted o (yielded ops a.tmps) = b := by
  unfold gOk at h
  unfold Region.wanted
  split at h
  · rename_i hg; rw [hg]; simpa using h
  · rename_i j want hg
    rw [hg]
    simp only
    unfold slotF at h
    rw [Array.getElem?_toList] at h
    cases ho : ops[j]? with
    | none => rw [ho] at h; simp at h
    | some o' =>
      rw [ho] at h
      cases hdst : o'.dst with
      | none => simp [hdst] at h
      | some d =>
        simp only [hdst] at h
        by_cases hlt : d < N
        · have hf := hfr d hlt
          have hget : a.tmps[d]? = some (a.tmps.getD d undef) := by
            have hlt' : d < a.tmps.size := by rw [hsz]; exact hlt
            simp [Array.getElem?_eq_getElem hlt']
          split at h
          · rename_i b' hs
            rw [hs] at hf
            have : yielded ops a.tmps j = some b' := by simp only [yielded, ho, Option.bind_some, hdst, hget, hf.bool]
            rw [this]
            cases want <;> cases b' <;> simp at h <;> subst h <;> rfl
          · rename_i hs
            rw [hs, FR] at hf
            have : yielded ops a.tmps j = none := by
              simp only [yielded, ho, Option.bind_some, hdst, hget, hf]; rfl
            rw [this]
            simp at h; subst h
            cases want <;> rfl
          · cases h
        · rw [hd d (Nat.le_of_not_lt hlt)] at h; simp at h

theorem put_tmps (a : Act) (dst : Option Tmp) (x : Value) (t : Nat) (ht : t < a.tmps.size) : (a.put dst x).tmps.getD t undef = if dst = some t then x else a.tmps.getD t undef := by
  cases dst with
  | none => simp [Act.put]
  | some d =>
    by_cases h : d = t
    · subst h; simp [Act.put, ht]
    · simp [Act.put, Array.getElem?_setIfInBounds_ne h, h]

theorem put_size (a : Act) (dst : Option Tmp) (x : Value) : (a.put dst x).tmps.size = a.tmps.size := by cases dst <;> simp [Act.put]
theorem put_defers (a : Act) (dst : Option Tmp) (x : Value) : (a.put dst x).defers = a.defers := by cases dst <;> rfl

theorem one_answer {v v' : SV} {δ δ' : Delta} {τ τ' : List Nat} (r0 : R) (h : ∀ k : KOp R, k v δ τ = k v' δ' τ') : v = v' ∧ δ = δ' ∧ τ = τ' := by
  classical
  have := h fun a b c => if a = v ∧ b = δ ∧ c = τ then some r0 else none
  simp only [and_self, if_true] at this
  split at this
  · rename_i e; exact ⟨e.1.symm, e.2.1.symm, e.2.2.symm⟩
  · cases this

theorem step_T (hE : EnvOk P G H0 E) (r0 : R) {ops : Array Oper} {N : Nat} {s0 : Nat → SV} (hs0 : ∀ t, N ≤ t → s0 t = .dead) {hp0 : List Blk} {sts : List St} (hrun : Run E ops.toList N s0 hp0 sts) {T : Nat → Bool} {n : Nat} {st : St}
    (hn : sts[n]? = some st) (hT : T n = false) (hfree : ∀ m st', sts[m]? = some st' → (m < n ∧ T m = false) ∨ (n < m ∧ T m = true) → Apart ops.toList st' st)
    {w0 : World} {I0 : Nat → Prop} {ρ0 : Nat → Option Info} {a : Act} {w : World} {I : Nat → Prop} {ρ : Nat → Option Info} (hrel : RelT P G H0 N s0 hp0 sts T w0 I0 ρ0 a w I ρ)
    {Q : Exit → Act → World → Prop} {K : Act → World → Prop} (hK : ∀ a' w' I' ρ', RelT P G H0 N s0 hp0 sts (fun m => T m || m == n) w0 I0 ρ0 a' w' I' ρ' → K a' w') : wpOp P ops Q n K a w := by
  have hop : ops[n]? = some st.o := by
    rw [← Array.getElem?_toList, ← hrun.ops, List.getElem?_map, hn]; rfl
  have hcase : ∀ m st', sts[m]? = some st' → T m = decide (m < n) ∨ Apart ops.toList st' st := by
    intro m st' hm
    rcases Nat.lt_trichotomy m n with h | h | h
    · cases ht : T m with
      | true => left; simp [h]
      | false => exact .inr (hfree m st' hm (.inl ⟨h, ht⟩))
    · subst h; left; simp [hT]
    · cases ht : T m with
      | true => exact .inr (hfree m st' hm (.inr ⟨h, ht⟩))
      | false => left; simp; omega
  have hsl : ∀ t, t ∈ st.rs ops.toList → slotT N sts T s0 t = slotT N sts (fun m => decide (m < n)) s0 t := fun t ht =>
    foldT_congr _ _ _ fun m st' hm => by
      rw [Nat.zero_add]
      rcases hcase m st' hm with h | h
      · exact .inl h
      · exact .inr (gs_id fun hd => h.swr t hd ht)
  have hlk : ∀ i, i ∈ st.τ → lookT sts T (blkOf hp0) i = lookT sts (fun m => decide (m < n)) (blkOf hp0) i := fun i hi =>
    foldT_congr _ _ _ fun m st' hm => by
      rw [Nat.zero_add]
      rcases hcase m st' hm with h | h
      · exact .inl h
      · exact .inr (gl_id fun hd => h.wr i hd hi)
  obtain ⟨h1, h2, h3⟩ := (hrun.ok n st hn).congr hsl hlk
  have hgt : ∀ m st', sts[m]? = some st' → n < m → T (0 + m) = true → Apart ops.toList st' st := fun m st' hm hlt ht => hfree m st' hm (.inr ⟨hlt, by rwa [Nat.zero_add] at ht⟩)
  have hins : ∀ t, slotT N sts (fun m => T m || m == n) s0 t = gs N t (slotT N sts T s0 t) st ∨ st.o.dst ≠ some t ∧ slotT N sts (fun m => T m || m == n) s0 t = slotT N sts T s0 t := by
    intro t
    by_cases hd : st.o.dst = some t
    · left
      have := foldT_ins (g := gs N t) (T := T) sts 0 n (s0 t) hn (fun m st' hm hlt ht => gs_id fun hd' => (hgt m st' hm hlt ht).sww t hd' hd) (by rw [Nat.zero_add]; exact hT)
      rw [Nat.zero_add] at this; exact this
    · right
      refine ⟨hd, foldT_congr _ _ _ fun m st' hm => ?_⟩
      rw [Nat.zero_add]
      by_cases hm' : m = n
      · subst hm'; rw [hn] at hm; cases hm; exact .inr (gs_id hd)
      · left; simp [hm']
  have hlook : lookT sts (fun m => T m || m == n) (blkOf hp0) = applyL (lookT sts T (blkOf hp0)) st.δ := by
    funext i
    rw [applyL_point]
    by_cases hd : i ∈ st.δ.map (·.1)
    · have := foldT_ins (g := gl i) (T := T) sts 0 n (blkOf hp0 i) hn (fun m st' hm hlt ht => gl_id fun hd' => (hgt m st' hm hlt ht).ww i hd' hd) (by rw [Nat.zero_add]; exact hT)
      rw [Nat.zero_add] at this; exact this
    · rw [applyL_mem _ _ _ hd]
      refine foldT_congr _ _ _ fun m st' hm => ?_
      rw [Nat.zero_add]
      by_cases hm' : m = n
      · subst hm'; rw [hn] at hm; cases hm; exact .inr (gl_id hd)
      · left; simp [hm']
  have hsl' : ∀ t, t < N → ∀ (x : Value) (w' : World) (I' : Nat → Prop) (ρ' : Nat → Option Info), Stay w I w' I' → Ext ρ ρ' → FR w' I' ρ' st.v x → FR w' I' ρ' (slotT N sts (fun m => T m || m == n) s0 t) ((a.put st.o.dst x).tmps.getD t undef) := by
    intro t ht x w' I' ρ' hst hex hx
    rw [put_tmps a st.o.dst x t (by rw [hrel.size]; exact ht)]
    by_cases hd : st.o.dst = some t
    · rw [if_pos hd]
      rcases hins t with h | h
      · rw [h]; simp [gs, hd, ht]; exact hx
      · exact absurd hd h.1
    · rw [if_neg hd]
      have : slotT N sts (fun m => T m || m == n) s0 t = slotT N sts T s0 t := by
        rcases hins t with h | h
        · rw [h, gs_id hd]
        · exact h.2
      rw [this]
      exact (hrel.slots t ht).mono hst hex
  have hwant := wanted_ok hrel.size (fun t ht => by rw [slotT_dead ht]; exact hs0 t ht) hrel.slots h1
  unfold wpOp
  simp only [hop]
  rw [hwant]
  cases hran : st.ran with
  | false =>
    obtain ⟨e1, e2, e3⟩ := h3 hran
    simp only [Bool.false_eq_true, if_false]
    refine hK _ w I ρ ⟨by rw [put_size]; exact hrel.size, by rw [put_defers]; exact hrel.defers, fun t ht => hsl' t ht undef w I ρ (Stay.refl _ _) (Ext.refl _) (by rw [e1, FR]), fun i y hi => ?_, ?_⟩
    · rcases hrel.dom i y hi with h | ⟨m, st', k1, k2, k3⟩
      · exact .inl h
      · exact .inr ⟨m, st', k1, by simp [k2], k3⟩
    · rw [hlook, e2]; exact hrel.post
  | true =>
    simp only [if_true]
    left
    have hx := h2 hran (evF (slotT N sts T s0)) (lookT sts T (blkOf hp0)) (fun _ _ => rfl) (fun _ _ => rfl)
    obtain ⟨v1, δ1, τ1, g1, g2, g3⟩ := xop_ok (G := G) (H0 := H0) hE (hx fun _ _ _ => some r0)
    obtain ⟨rfl, rfl, rfl⟩ := one_answer r0 fun k => (hx k).symm.trans (g2 _ _ (fun _ _ => rfl) (fun _ _ => rfl) k)
    refine g3 st.o a w I ρ rfl hrel.post.real (hrel.fr hs0) (fun i B hi hp => ?_) K Q fun x w' I' ρ' hop' => hK _ w' I' ρ' ⟨by rw [put_size]; exact hrel.size, by rw [put_defers]; exact hrel.defers,
      fun t ht => hsl' t ht x w' I' ρ' hop'.post.stay hop'.post.ext hop'.fr, fun i y hi => ?_, by rw [hlook]; exact hrel.post.trans hop'.post⟩
    · have hin : i ∈ st.δ.map (·.1) := List.mem_map.2 ⟨_, hi, rfl⟩
      have hno : ∀ m st', sts[m]? = some st' → T m = true → i ∉ st'.δ.map (·.1) := by
        intro m st' hm ht hi'
        rcases Nat.lt_trichotomy m n with h | h | h
        · have := hrun.low m n st' st hm hn h i hi'; omega
        · subst h; rw [hT] at ht; cases ht
        · exact (hfree m st' hm (.inr ⟨h, ht⟩)).ww i hi' hin
      have hb := hrun.base n st hn
      constructor
      · have : lookT sts T (blkOf hp0) i = blkOf hp0 i := foldT_id _ _ _ fun m st' hm ht => gl_id (hno m st' hm (by rwa [Nat.zero_add] at ht))
        rw [this]
        simp only [blkOf, List.getD_eq_getElem?_getD]
        rw [List.getElem?_eq_none (by omega)]; rfl
      · cases hρ : ρ i with
        | none => rfl
        | some y =>
          rcases hrel.dom i y hρ with h | ⟨m, st', k1, k2, k3⟩
          · omega
          · exact absurd k3 (hno m st' k1 k2)
    · rcases hop'.births i y hi with h | ⟨B, h⟩
      · rcases hrel.dom i y h with h | ⟨m, st', k1, k2, k3⟩
        · exact .inl h
        · exact .inr ⟨m, st', k1, by simp [k2], k3⟩
      · exact .inr ⟨n, st, hn, by simp, List.mem_map.2 ⟨_, h, rfl⟩⟩
end
end Go.AM
