/- The row of the law, given the pure law. -/
import Derived.Test.YtidncoebfnabcaaGreatDoorG2
import Derived.Test.YtidncoebfnabcaaGreatDoorRows
import Derived.ChangeSame
import Derived.ChangeVars
import Derived.JoinedOf
import Derived.RowKit
import Derived.RowKitTokens
import Derived.LaidLaws
import Derived.LaidHandle
import Derived.Stop.Joined
import Derived.WideKeyArgs
import Derived.Deep.Slices
import Derived.Deep.Fields
import Derived.Lib.SmallJoins
import Derived.ProofKit
import Derived.Lib.LaidTab
namespace Go.Proofs.YtidncoebfnabcaaGreatDoor
open Go.ChangeShapes Go.WideShapes Go.RowKit Go.Deep Go.Joins Go.WideElems Go.AM

section
variable {H : Type} {enc : TypeId × Value → H} {P : Program} {w : World} {base : Nat} {spare : Nat → Bool} {held : Bool}
theorem open_slice_fields {t e : TypeId} {fs : Array Field} {fuel : Nat} {cs : List Value} {x : DataW H × List MemPlace} (ht : P.underlying t = some (.slice e)) (he : P.underlying e = some (.struct fs))
    (hone : oneCellFields P fs = true) (hC : P.cellsOf e = fs.size) (h : DataW.trod enc P w base spare held fuel t cs = some x) :
    (cs = [.slice none 0 0] ∧ x = (.nil, [])) ∨
    ∃ (a : Addr) (len cap m : Nat) (D : Nat → DataW H) (Pl : Nat → List MemPlace), cs = [.slice (some a) len cap] ∧ base ≤ a.block ∧ len ≤ cap ∧ cap ≤ maxLen ∧ m = (if spare a.block then cap else len) ∧
      x = (.slice ((List.range len).map D) ((List.range (m - len)).map fun j => D (len + j)), MemPlace.row a (m * fs.size) ++ (List.range m).flatMap Pl) ∧
      ∀ i, i < m → ∃ (ys : List (DataW H × List MemPlace)) (n : Nat), D i = .agg (ys.map (·.1)) ∧ Pl i = ys.flatMap (·.2) ∧ ys.length = fs.size ∧
        ∀ (j : Nat) (f : Field), fs[j]? = some f → ∃ (v : Value) (y : DataW H × List MemPlace), w.cell? (a.add (i * fs.size + j)) = some v ∧ ys[j]? = some y ∧ DataW.trod enc P w base spare held n f.type [v] = some y := by
  rcases open_slice ht h with h0 | ⟨a, len, cap, m, n, D, Pl, hcs, hb, hl, hm, hmm, hx, hi⟩
  · exact .inl h0
  · refine .inr ⟨a, len, cap, m, D, Pl, hcs, hb, hl, hm, hmm, by rw [hC] at hx; exact hx, fun i him => ?_⟩
    obtain ⟨cs', hc, ht'⟩ := hi i him
    rw [hC] at hc
    obtain ⟨ys, n', hn', hy, hlen, hyl, hf⟩ := DataW.trod_struct he ht'
    obtain ⟨_, hcl, hat⟩ := World.cells?_some hc
    simp only [Prod.mk.injEq] at hy
    refine ⟨ys, n', hy.1, hy.2, hyl, fun j f hj => ?_⟩
    obtain ⟨ho, hk⟩ := hone_of hone j f hj
    have hjl : j < fs.size := (Array.getElem?_eq_some_iff.1 hj).1
    have hcell := hat j hjl
    have hv : cs'[j]? = some (cs'[j]'(by omega)) := List.getElem?_eq_getElem (by omega)
    have h1 := hf j f hj
    rw [ho, hk] at h1
    have hone' : (cs'.drop j).take 1 = [cs'[j]'(by omega)] := by
      rw [List.drop_eq_getElem_cons (by omega)]
      rfl
    rw [hone'] at h1
    have hys : ys[j]? = some (ys[j]'(by omega)) := List.getElem?_eq_getElem (by omega)
    refine ⟨_, _, ?_, hys, h1.trans hys⟩
    rw [← Go.Deep.add_add, hcell, hv]

theorem trod_str {t : TypeId} {n : Nat} {v : Value} {y : DataW H × List MemPlace} (ht : P.underlying t = some .string) (h : DataW.trod enc P w base spare held n t [v] = some y) : ∃ s : List UInt8, v = .string ⟨s.toArray⟩ := by
  cases n with
  | zero => simp [DataW.trod] at h
  | succ n =>
    cases v with
    | string s => exact ⟨s.data.toList, by simp⟩
    | _ => simp [DataW.trod, ht] at h

theorem trod_int {t : TypeId} {k : IntKind} {n : Nat} {v : Value} {y : DataW H × List MemPlace} (ht : P.underlying t = some (.int k)) (h : DataW.trod enc P w base spare held n t [v] = some y) : ∃ i : Int, v = .int k i ∧ (Lit.int k i).wf = true := by
  cases n with
  | zero => simp [DataW.trod] at h
  | succ n =>
    cases v with
    | int k' i =>
      simp only [DataW.trod, ht] at h
      split at h
      · rename_i hc; exact ⟨i, by rw [hc.1], hc.2⟩
      · cases h
    | _ => simp [DataW.trod, ht] at h
end

/-- What the machine knows of the memory when the law is called. -/
def I0 (W : World) : Nat → Prop := fun b => b < W.heap.size

theorem mem0 (W : World) : Mem W.heap.size W.heap [] W (I0 W) (fun _ => none) where
  dom := fun i y h => by cases h
  real := {
    blk := fun i => by
      have : blkOf [] i = .dead := by simp [blkOf]
      rw [this, BR]; trivial
    inj := fun i j x y b hi => by simp [blkOf] at hi
    own := fun b hb => by obtain ⟨i, x, hi, _⟩ := hb; simp [blkOf] at hi
    imm := fun b h => h
    glob := fun b h => by rfl
    gsz := Nat.le_refl _ }

theorem All2.snoc {α β : Type} {f : α → β → Prop} : ∀ {xs : List α} {ys : List β} {x : α} {y : β}, All2 f xs ys → f x y → All2 f (xs ++ [x]) (ys ++ [y])
  | [], [], _, _, _, h => ⟨h, trivial⟩
  | [], _ :: _, _, _, h, _ => h.elim
  | _ :: _, [], _, _, h, _ => h.elim
  | _ :: _, _ :: _, _, _, h, h' => ⟨h.1, All2.snoc h.2 h'⟩

theorem addr_add (b o n : Nat) : (⟨b, o, none⟩ : Addr).add n = ⟨b, o + n, none⟩ := by
  unfold Addr.add
  by_cases h : n = 0
  · subst h; simp
  · simp [h]

theorem files_pr {H : Type} {enc : TypeId × Value → H} {W : World} {fuel : Nat} {v : Value} {x : DataW H × List MemPlace} (h : DataW.trod enc Tryz.prog W 0 (fun _ => true) true fuel 24 [v] = some x) :
    ∃ fs : List (List UInt8 × List UInt8), PR W (I0 W) (.sl (.prod .str .str)) fs [v] := by
  rcases open_slice_fields Tryz.underlying24 Tryz.underlying27 (by kernel_rfl) (by kernel_rfl) h with ⟨hv, _⟩ | ⟨a, len, cap, m, D, Pl, hv, _, hlc, _, hm, _, hi⟩
  · simp at hv; subst hv
    exact ⟨[], by rw [PR]; exact .inl ⟨rfl, _, _, rfl⟩⟩
  · simp at hv hm; subst hv; subst hm
    cases len with
    | zero => exact ⟨[], by rw [PR]; exact .inl ⟨rfl, _, _, rfl⟩⟩
    | succ len =>
      have cell : ∀ i, i < len + 1 → ∃ p d : List UInt8, W.cell? (a.add (i * 2)) = some (.string ⟨p.toArray⟩) ∧ W.cell? (a.add (i * 2 + 1)) = some (.string ⟨d.toArray⟩) := by
        intro i hil
        obtain ⟨ys, n, _, _, _, hf⟩ := hi i (by omega)
        obtain ⟨v0, y0, c0, _, t0⟩ := hf 0 _ rfl
        obtain ⟨v1, y1, c1, _, t1⟩ := hf 1 _ rfl
        obtain ⟨p, rfl⟩ := trod_str Tryz.underlying9 t0
        obtain ⟨d, rfl⟩ := trod_str Tryz.underlying9 t1
        exact ⟨p, d, by simpa using c0, by simpa using c1⟩
      obtain ⟨b, o, spot⟩ := a
      have hspot : spot = none := by
        obtain ⟨p, d, h0, _⟩ := cell 0 (by omega)
        simpa [Addr.add] using World.cell?_spot h0
      subst hspot
      have hb : I0 W b := by
        obtain ⟨p, d, h0, _⟩ := cell 0 (by omega)
        unfold I0
        rcases Nat.lt_or_ge b W.heap.size with hlt | hge
        · exact hlt
        · simp [World.cell?, Addr.add, Array.getElem?_eq_none hge] at h0
      have key : ∀ k, k ≤ len + 1 → ∃ (fs : List (List UInt8 × List UInt8)) (css : List (List Value)), fs.length = k ∧ All2 (PR W (I0 W) (.prod .str .str)) fs css ∧ css.flatten.length = 2 * k ∧
          ∀ j u, css.flatten[j]? = some u → W.cell? ⟨b, o + j, none⟩ = some u := by
        intro k
        induction k with
        | zero => exact fun _ => ⟨[], [], rfl, trivial, rfl, fun j u h => by simp at h⟩
        | succ k ih =>
          intro hk
          obtain ⟨fs, css, h1, h2, h3, h4⟩ := ih (by omega)
          obtain ⟨p, d, g1, g2⟩ := cell k (by omega)
          refine ⟨fs ++ [(p, d)], css ++ [[.string ⟨p.toArray⟩, .string ⟨d.toArray⟩]], by simp [h1], All2.snoc h2 ?_, by simp [h3]; omega, ?_⟩
          · rw [PR]; exact ⟨[.string ⟨p.toArray⟩], [.string ⟨d.toArray⟩], rfl, by rw [PR], by rw [PR]⟩
          · intro j u hj
            rw [List.flatten_append, List.getElem?_append] at hj
            split at hj
            · exact h4 j u hj
            · rename_i hge
              rw [h3] at hj hge
              have hj2 : j - 2 * k = 0 ∨ j - 2 * k = 1 := by
                rcases Nat.lt_or_ge (j - 2 * k) 2 with hh | hh
                · omega
                · rw [List.getElem?_eq_none (by simpa using hh)] at hj; cases hj
              rcases hj2 with e | e
              · rw [e] at hj; simp at hj; subst hj
                have : o + j = o + k * 2 := by omega
                rw [this, ← addr_add]; exact g1
              · rw [e] at hj; simp at hj; subst hj
                have : o + j = o + (k * 2 + 1) := by omega
                rw [this, ← addr_add]; exact g2
      obtain ⟨fs, css, h1, h2, h3, h4⟩ := key (len + 1) (Nat.le_refl _)
      refine ⟨fs, ?_⟩
      rw [PR]
      exact .inr ⟨b, o, m, css, hb, by rw [h1], by omega, h2, h4⟩

theorem Tryz.own : ownKnob Tryz.prog.godebug = none := by kernel_rfl
theorem Tryz.laidOut : laidOutB Tryz.prog = true := by kernel_rfl

theorem keptBut_below {W W' : World} {may : MemPlace → Prop} (hb : Below W.heap.size W W') : W.keptBut W' may := by
  refine ⟨hb.os, hb.output, fun i hi => ?_⟩
  rw [hb.block i hi]
  cases hh : W.heap[i]? with
  | none => rfl
  | some o =>
    cases o with
    | cells c t fr => exact ⟨rfl, rfl, rfl, fun _ _ => rfl⟩
    | map es clock => exact .inr ⟨rfl, rfl⟩
    | _ => rfl

def kTrue : SV → List Blk → Option Unit := fun v _ => match v with
  | .pv .bool true => some ()
  | _ => none

theorem kTrue_inv {v : SV} {L : List Blk} (h : kTrue v L = some ()) : v = .pv .bool true := by
  unfold kTrue at h
  split at h
  · rfl
  · cases h

/-- The law of the shallow functions. -/
def PureLaw : Prop := ∀ (k : Int) (d : List UInt8) (fs : List (List UInt8 × List UInt8)), -9223372036854775808 ≤ k → k ≤ 9223372036854775807 → ∃ m, ∀ K : Bool → Option Unit, f3 m k d fs K = K true

theorem law_calls (hpure : PureLaw) (W : World) (hl : Laid W.heap.size W.heap) (k : Int) (hk1 : -9223372036854775808 ≤ k) (hk2 : k ≤ 9223372036854775807) (d : List UInt8) (v1 : Value) (fs : List (List UInt8 × List UInt8)) (hv : PR W (I0 W) (.sl (.prod .str .str)) fs [v1]) :
    Calls Tryz.prog 3 #[.agg #[.int .i64 k, .string ⟨d.toArray⟩], v1] W fun e W' => e = .returned (.bool true) ∧ Below W.heap.size W W' := by
  obtain ⟨m, hm⟩ := hpure k d fs hk1 hk2
  have hrun : f3.pc (R := Unit) m ncon [.agg [.pv (.int .i64) k, .pv .str d], .pv (.sl (.prod .str .str)) fs] [] kTrue = some () := by
    have : f3.pc (R := Unit) m ncon [.agg [.pv (.int .i64) k, .pv .str d], .pv (.sl (.prod .str .str)) fs] [] kTrue = f3 m k d fs (fun r0 => kTrue (.pv .bool r0) []) := by kernel_rfl
    rw [this, hm]; rfl
  obtain ⟨v, L, h1, _, h3⟩ := f3.ok (G := W.heap.size) (H0 := W.heap) hl m (ncon_ok 3) _ _ _ _ hrun
  obtain rfl := kTrue_inv h1
  refine (h3.2 W (I0 W) (fun _ => none) #[.agg #[.int .i64 k, .string ⟨d.toArray⟩], v1] (mem0 W) ?_).mono ?_
  · rw [FRs]
    refine ⟨_, _, rfl, ?_, ?_⟩
    · rw [FR]
      refine ⟨_, rfl, ?_⟩
      rw [ERs]
      refine ⟨[.int .i64 k], [.string ⟨d.toArray⟩], rfl, ⟨fun t x e => by cases e; rw [PR], fun e => by cases e⟩, ?_⟩
      rw [ERs]
      exact ⟨[.string ⟨d.toArray⟩], [], rfl, ⟨fun t x e => by cases e; rw [PR], fun e => by cases e⟩, by rw [ERs]⟩
    · rw [FRs]
      exact ⟨v1, [], rfl, by rw [FR]; exact hv, by rw [FRs]⟩
  · rintro e W' ⟨x, I', ρ', rfl, hx, hm', _, hch⟩
    rw [FR, PR] at hx
    simp at hx
    subst hx
    exact ⟨rfl, hch.os, hch.tape, hch.output, hch.size, fun b hb => hch.frame b hb (fun ho => by obtain ⟨i, x, hi, _⟩ := ho; simp [blkOf] at hi)⟩

theorem laid_of {W : World} (h : laidMet Tryz.prog Rows.looseWritesRow.laid W) : Laid W.heap.size W.heap := by
  obtain ⟨ps, hl, _⟩ := h
  obtain ⟨g0, t0, cs0, fuel0, p0, q0, _, _, _, _, hl, _⟩ := hl
  obtain ⟨g1, t1, cs1, fuel1, p1, q1, _, _, _, _, hl, _⟩ := hl
  obtain ⟨g, t, cs, fuel, p, q, hg, hty, hvar, hd, _, _⟩ := hl
  have e1 : Tryz.prog.globalNamed "internal/strconv.uint64pow10" = some 1 := by kernel_rfl
  have e2 : (Tryz.prog.globals[1]?).map (·.type) = some 213 := by kernel_rfl
  obtain rfl := Option.some.inj (e1.symm.trans hg)
  obtain rfl := Option.some.inj (e2.symm.trans hty)
  have e3 : (Rows.laid_internal_strconv_uint64pow10 : DataW Unit) = Lib.tabData .u64 Lib.pow10Tab := by kernel_rfl
  have e4 : Tryz.prog.underlying 213 = some (.array 20 52) := by kernel_rfl
  have e5 : Tryz.prog.underlying 52 = some (.int .u64) := by kernel_rfl
  have e6 : Tryz.prog.cellsOf 52 = 1 := by kernel_rfl
  have e7 : Tryz.prog.cellsOf 213 = 20 := by kernel_rfl
  rw [e3] at hd
  have hcs := Lib.cells_of_tab e4 e5 e6 e7 hd
  refine ⟨fun w hw => ?_⟩
  have hv : W.heap[1]? = w.heap[1]? ∨ True := .inr trivial
  unfold Lib.TabIs World.var?
  unfold World.var? at hvar
  rw [hg] at hvar ⊢
  simp only [Option.bind_some] at hvar ⊢
  have hlt : 1 < W.heap.size := by
    rcases Nat.lt_or_ge 1 W.heap.size with h | h
    · exact h
    · rw [Array.getElem?_eq_none h] at hvar; cases hvar
  rw [hw 1 hlt, hvar, ← Array.toArray_toList (xs := cs), hcs]

set_option maxRecDepth 100000 in
theorem law_lifted (hpure : PureLaw) (os : Os) (started : os.Started) (H : Type) (enc : TypeId × Value → H)
    (hwit : ∃ (w : World) (tape : Tape) (i : Input), w.os = os ∧ (w.forCall tape i).Shaped Tryz.checked.prog ∧ i.vars = [] ∧ Input.okWide Tryz.checked.prog (w.forCall tape i) .any w.heap.size 3 i ∧
      ((Rows.looseWritesSpec.pre enc Tryz.checked.prog Tryz.f3 [] false (w.forCall tape i).memory i.args ∧ laidMetH Tryz.prog Rows.looseWritesRow.laid (w.forCall tape i).memory) ∧ sizedMet enc Tryz.checked.prog Tryz.f3 (OpenSpec.ofChange Rows.looseWritesSpec) false (w.forCall tape i).memory i.args) ∧ ({} : Assume).holds Tryz.checked.prog (lone (Frame.enter Tryz.checked.prog 3 i.args .normal) [] (w.forCall tape i))) :
    ReturnsInHanded {} Tryz.checked os 3 .any (fun w args => (Rows.looseWritesSpec.pre enc Tryz.prog Tryz.f3 [] false w args ∧ laidMetH Tryz.prog Rows.looseWritesRow.laid w) ∧ sizedMet enc Tryz.prog Tryz.f3 (OpenSpec.ofChange Rows.looseWritesSpec) false w args)
      (Rows.looseWritesSpec.post enc Tryz.prog Tryz.f3 false true false false) := by
  refine returnsInHanded_of_change_and (C := Tryz.checked) (X := fun w _ => laidMetH Tryz.prog Rows.looseWritesRow.laid w) (fun _ _ _ hh h => h.of_heap hh) Tryz.own started (by kernel_rfl) Tryz.func3 hwit ?_
  intro W base args ds gs before hval0 hW _ _ hL _
  have hval : ∀ (j : Nat) t v, Tryz.f3.params[j]? = some t → args[j]? = some v → Value.okWide Tryz.prog W .any base t v := hval0
  have hW' := hW
  obtain ⟨p, q, hA0, hV, rfl, hfz, hnd⟩ := hW
  have hA : DataW.TrodAll enc Tryz.prog W 0 (fun _ => true) true Tryz.f3.params.toList args.toList ds p := hA0
  rw [Tryz.params3] at hA hval
  obtain ⟨v0, v1, d0, d1, p0, p1, rfl, rfl, rfl, h0, h1⟩ := trodAll_two hA
  obtain ⟨rfl, rfl⟩ := trodVars_none hV
  have hlt : ∀ x ∈ p0 ++ p1, x.block < W.heap.size := fun x hx => hW'.lt x (by simpa using hx)
  obtain ⟨u0, u1, y0, y1, n, rfl, rfl, rfl, t0, t1⟩ := open_agg2 Tryz.underlying23 (by kernel_rfl) (by kernel_rfl) (hval 0 23 v0 rfl rfl) h0
  obtain ⟨k, rfl, hwf⟩ := trod_int Tryz.underlying3 t0
  obtain ⟨s, rfl⟩ := trod_str Tryz.underlying9 t1
  have h0k := h0
  have h1k := h1
  obtain ⟨fuel, h1'⟩ := h1
  obtain ⟨fs, hfs⟩ : ∃ fs, PR W (I0 W) (.sl (.prod .str .str)) fs [v1] := by
    obtain ⟨a, len, cap, rfl⟩ := okWide_slice Tryz.underlying24 (hval 1 24 v1 rfl rfl)
    exact files_pr (by simpa [Value.cells] using h1')
  have hkb : -9223372036854775808 ≤ k ∧ k ≤ 9223372036854775807 := by
    simpa [Lit.wf, IntKind.min, IntKind.max, IntKind.signed, IntKind.bits] using hwf
  refine (law_calls hpure W (laid_of hL) k hkb.1 hkb.2 s v1 fs hfs).mono fun e W' ⟨he, hb⟩ => ?_
  subst he
  have e1 : Rows.looseWritesSpec.fn H ([.agg [y0.1, y1.1], d1] ++ []) = { results := [.lit (.bool true)], args := [.agg [y0.1, y1.1], d1] } := by simp [Rows.looseWritesSpec]
  refine ⟨_, rfl, _, _, _, [], (y0.2 ++ y1.2) ++ p1, [], hW', ?_, ?_, ?_, keptBut_below hb, fun h => by cases h⟩
  · rw [e1]; exact trodAll_mk1 (shut_bool Tryz.underlying4 true)
  · rw [e1]; exact trodAll_mk2 (Below.trod Tryz.laidOut (by kernel_rfl) (by decide) h0k hb (fun x hx => hlt x (List.mem_append_left _ hx))) (Below.trod Tryz.laidOut (by kernel_rfl) (by decide) h1k hb (fun x hx => hlt x (List.mem_append_right _ hx)))
  · rw [e1]; rfl

end Go.Proofs.YtidncoebfnabcaaGreatDoor
