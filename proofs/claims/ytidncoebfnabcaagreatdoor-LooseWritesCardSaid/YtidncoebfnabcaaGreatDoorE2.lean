/- The abstract machine: regions in any order, runs, contracts. -/
import Derived.Test.YtidncoebfnabcaaGreatDoorE1
import Derived.Scope
import Derived.KernelRfl
import Derived.Below
import Derived.RowKit
set_option linter.unusedSimpArgs false
set_option linter.unusedVariables false
namespace Go.AM
section
variable {R : Type} {P : Program} {G : Nat} {H0 : Array Obj} {E : Env R}

theorem setAt_length : ∀ (h : List Blk) (i : Nat) (B : Blk), (setAt h i B).length = max h.length (i + 1)
  | [], 0, _ => by simp [setAt]
  | [], i + 1, B => by simp [setAt, setAt_length [] i B]
  | _ :: h, 0, _ => by simp [setAt]
  | _ :: h, i + 1, B => by simp [setAt, setAt_length h i B]

theorem setAt_get : ∀ (h : List Blk) (i : Nat) (B : Blk) (j : Nat), (setAt h i B).getD j .dead = if j = i then B else h.getD j .dead
  | [], 0, B, 0 => by simp [setAt]
  | [], 0, B, j + 1 => by simp [setAt]
  | [], i + 1, B, 0 => by simp [setAt]
  | [], i + 1, B, j + 1 => by
    have := setAt_get [] i B j
    simp only [setAt, List.getD_cons_succ, this, Nat.add_right_cancel_iff]; simp
  | A :: h, 0, B, 0 => by simp [setAt]
  | A :: h, 0, B, j + 1 => by simp [setAt]
  | A :: h, i + 1, B, 0 => by simp [setAt]
  | A :: h, i + 1, B, j + 1 => by
    have := setAt_get h i B j
    simp only [setAt, List.getD_cons_succ, this, Nat.add_right_cancel_iff]

theorem applyD_length : ∀ (δ : Delta) (h : List Blk), h.length ≤ (applyD h δ).length ∧ ∀ q, q ∈ δ.map (·.1) → q < (applyD h δ).length
  | [], h => ⟨Nat.le_refl _, by simp⟩
  | q :: δ, h => by
    obtain ⟨h1, h2⟩ := applyD_length δ (setAt h q.1 q.2)
    have h3 := setAt_length h q.1 q.2
    have e : applyD h (q :: δ) = applyD (setAt h q.1 q.2) δ := rfl
    rw [e]
    refine ⟨by omega, fun x hx => ?_⟩
    rcases List.mem_cons.1 hx with rfl | hx
    · simp only at *; omega
    · exact h2 x hx

theorem blkOf_applyD : ∀ (δ : Delta) (h : List Blk), blkOf (applyD h δ) = applyL (blkOf h) δ
  | [], h => rfl
  | q :: δ, h => by
    have e : applyD h (q :: δ) = applyD (setAt h q.1 q.2) δ := rfl
    rw [e, blkOf_applyD δ]
    have : blkOf (setAt h q.1 q.2) = upd (blkOf h) q.1 q.2 := by
      funext j; simp only [blkOf, setAt_get, upd]
    rw [this]; rfl

def putS (fr : List SV) (st : St) : List SV := put fr st.o.dst st.v
def appS (hp : List Blk) (st : St) : List Blk := applyD hp st.δ

def recsOf (all : List Oper) : Nat → List St → List Rec → List Rec
  | _, [], rs => rs
  | n, st :: sts, rs => recsOf all (n + 1) sts (recOf all n st.o st.δ st.τ :: rs)

theorem putS_length (fr : List SV) (st : St) : (putS fr st).length = fr.length := by
  unfold putS put; split <;> simp

theorem putS_fold_length : ∀ (sts : List St) (fr : List SV), (sts.foldl putS fr).length = fr.length
  | [], _ => rfl
  | st :: sts, fr => by rw [List.foldl_cons, putS_fold_length sts, putS_length]

theorem appS_fold_length : ∀ (sts : List St) (hp : List Blk), hp.length ≤ (sts.foldl appS hp).length
  | [], _ => Nat.le_refl _
  | st :: sts, hp => Nat.le_trans (applyD_length st.δ hp).1 (appS_fold_length sts _)

theorem putS_get (fr : List SV) (st : St) (t : Nat) : (putS fr st).getD t .dead = gs fr.length t (fr.getD t .dead) st := by
  unfold putS put gs
  cases hd : st.o.dst with
  | none => simp
  | some d =>
    by_cases h : d = t
    · subst h
      by_cases hl : d < fr.length
      · simp [hl]
      · simp only [true_and, hl, if_false, List.getD_eq_getElem?_getD]
        rw [List.getElem?_eq_none (by simp; exact Nat.le_of_not_lt hl), List.getElem?_eq_none (Nat.le_of_not_lt hl)]
    · simp [h, List.getD_eq_getElem?_getD, List.getElem?_set_ne h]

theorem putS_fold_get : ∀ (sts : List St) (fr : List SV) (t : Nat), (sts.foldl putS fr).getD t .dead = sts.foldl (gs fr.length t) (fr.getD t .dead)
  | [], _, _ => rfl
  | st :: sts, fr, t => by
    rw [List.foldl_cons, List.foldl_cons, putS_fold_get sts, putS_length, putS_get]

theorem appS_fold_get : ∀ (sts : List St) (hp : List Blk) (i : Nat), blkOf (sts.foldl appS hp) i = sts.foldl (gl i) (blkOf hp i)
  | [], _, _ => rfl
  | st :: sts, hp, i => by
    rw [List.foldl_cons, List.foldl_cons, appS_fold_get sts]
    congr 1
    show blkOf (applyD hp st.δ) i = _
    rw [blkOf_applyD, applyL_point]; rfl

theorem xops_inv (hE : EnvOk P G H0 E) {all : List Oper} : ∀ (rest : List Oper) (n : Nat) (fr : List SV) (hp : List Blk) (rs : List Rec) (k : List SV → List Blk → List Rec → Option R) (r : R), xops E all n rest fr hp rs k = some r →
    ∃ sts : List St, sts.map (·.o) = rest ∧ k (sts.foldl putS fr) (sts.foldl appS hp) (recsOf all n sts rs) = some r ∧ (∀ k' : List SV → List Blk → List Rec → Option R, xops E all n rest fr hp rs k' = k' (sts.foldl putS fr) (sts.foldl appS hp) (recsOf all n sts rs)) ∧
      ∀ i st, sts[i]? = some st → StepOk E all (fun t => ((sts.take i).foldl putS fr).getD t .dead) (blkOf ((sts.take i).foldl appS hp)) st ∧ st.p = ((sts.take i).foldl appS hp).length
  | [], n, fr, hp, rs, k, r, h => ⟨[], rfl, h, fun _ => rfl, by simp⟩
  | o :: rest, n, fr, hp, rs, k, r, h => by
    have fin : ∀ st : St, st.o = o → StepOk E all (fun t => fr.getD t .dead) (blkOf hp) st → st.p = hp.length → xops E all (n + 1) rest (putS fr st) (appS hp st) (recOf all n st.o st.δ st.τ :: rs) k = some r →
        (∀ k' : List SV → List Blk → List Rec → Option R, xops E all n (o :: rest) fr hp rs k' = xops E all (n + 1) rest (putS fr st) (appS hp st) (recOf all n st.o st.δ st.τ :: rs) k') →
        ∃ sts : List St, sts.map (·.o) = o :: rest ∧ k (sts.foldl putS fr) (sts.foldl appS hp) (recsOf all n sts rs) = some r ∧ (∀ k' : List SV → List Blk → List Rec → Option R, xops E all n (o :: rest) fr hp rs k' = k' (sts.foldl putS fr) (sts.foldl appS hp) (recsOf all n sts rs)) ∧
          ∀ i st, sts[i]? = some st → StepOk E all (fun t => ((sts.take i).foldl putS fr).getD t .dead) (blkOf ((sts.take i).foldl appS hp)) st ∧ st.p = ((sts.take i).foldl appS hp).length := by
      intro st ho hst hp' hx hx'
      obtain ⟨sts, h1, h2, h2', h3⟩ := xops_inv hE rest (n + 1) _ _ _ k r hx
      refine ⟨st :: sts, by simp [ho, h1], h2, fun k' => by rw [hx', h2' k']; rfl, fun i st' hi => ?_⟩
      cases i with
      | zero => simp at hi; subst hi; exact ⟨hst, hp'⟩
      | succ i => simpa using h3 i st' (by simpa using hi)
    have run : gOk all (fun t => fr.getD t .dead) o = some true →
        (∀ k' : List SV → List Blk → List Rec → Option R, xops E all n (o :: rest) fr hp rs k' = xop E o.op (ev fr) (blkOf hp) hp.length (fun v d t => xops E all (n + 1) rest (put fr o.dst v) (applyD hp d) (recOf all n o d t :: rs) k')) → xop E o.op (ev fr) (blkOf hp) hp.length (fun v d t => xops E all (n + 1) rest (put fr o.dst v) (applyD hp d) (recOf all n o d t :: rs) k) = some r →
        ∃ sts : List St, sts.map (·.o) = o :: rest ∧ k (sts.foldl putS fr) (sts.foldl appS hp) (recsOf all n sts rs) = some r ∧ (∀ k' : List SV → List Blk → List Rec → Option R, xops E all n (o :: rest) fr hp rs k' = k' (sts.foldl putS fr) (sts.foldl appS hp) (recsOf all n sts rs)) ∧
          ∀ i st, sts[i]? = some st → StepOk E all (fun t => ((sts.take i).foldl putS fr).getD t .dead) (blkOf ((sts.take i).foldl appS hp)) st ∧ st.p = ((sts.take i).foldl appS hp).length := by
      intro hg hk' hx
      obtain ⟨v, δ, τ, h1, h2, _⟩ := xop_ok (G := G) (H0 := H0) hE hx
      refine fin ⟨o, v, δ, τ, hp.length, true⟩ rfl ⟨hg, fun _ σ' look' hσ hl k' => ?_, fun h => by cases h⟩ rfl h1 fun k' => (hk' k').trans (h2 (ev fr) (blkOf hp) (fun _ _ => rfl) (fun _ _ => rfl) _)
      exact h2 σ' look' (fun x hx => by rw [hσ x hx, ev_evF]) hl k'
    have skip : gOk all (fun t => fr.getD t .dead) o = some false →
        (∀ k' : List SV → List Blk → List Rec → Option R, xops E all n (o :: rest) fr hp rs k' = xops E all (n + 1) rest (put fr o.dst .undef) hp (recOf all n o [] [] :: rs) k') → xops E all (n + 1) rest (put fr o.dst .undef) hp (recOf all n o [] [] :: rs) k = some r →
        ∃ sts : List St, sts.map (·.o) = o :: rest ∧ k (sts.foldl putS fr) (sts.foldl appS hp) (recsOf all n sts rs) = some r ∧ (∀ k' : List SV → List Blk → List Rec → Option R, xops E all n (o :: rest) fr hp rs k' = k' (sts.foldl putS fr) (sts.foldl appS hp) (recsOf all n sts rs)) ∧
          ∀ i st, sts[i]? = some st → StepOk E all (fun t => ((sts.take i).foldl putS fr).getD t .dead) (blkOf ((sts.take i).foldl appS hp)) st ∧ st.p = ((sts.take i).foldl appS hp).length := by
      intro hg hk' hx
      exact fin ⟨o, .undef, [], [], hp.length, false⟩ rfl ⟨hg, (fun h => by cases h), fun _ => ⟨rfl, rfl, rfl⟩⟩ rfl hx hk'
    rw [xops] at h
    split at h
    case h_1 hg => exact run (by simp [gOk, hg]) (fun k' => by rw [xops]; simp only [hg]) h
    case h_2 j want hg =>
      split at h
      case h_1 b hs =>
        rw [slotOf_F] at hs
        change Bool at b
        cases want <;> cases b <;> simp only [Bool.not_true, Bool.not_false, cond_true, cond_false] at h <;>
          first
            | exact run (by simp only [gOk, hg, hs, Bool.not_true, Bool.not_false]) (fun k' => by rw [xops]; simp only [hg, slotOf_F, hs, Bool.not_true, Bool.not_false, cond_true, cond_false]) h
            | exact skip (by simp only [gOk, hg, hs, Bool.not_true, Bool.not_false]) (fun k' => by rw [xops]; simp only [hg, slotOf_F, hs, Bool.not_true, Bool.not_false, cond_true, cond_false]) h
      case h_2 hs =>
        rw [slotOf_F] at hs
        exact skip (by simp only [gOk, hg, hs]) (fun k' => by rw [xops]; simp only [hg, slotOf_F, hs]) h
      case h_3 => cases h

theorem run_of (hE : EnvOk P G H0 E) {ops : List Oper} {fr : List SV} {hp : List Blk} {k : List SV → List Blk → List Rec → Option R} {r : R} (h : xops E ops 0 ops fr hp [] k = some r) :
    ∃ sts : List St, Run E ops fr.length (fun t => fr.getD t .dead) hp sts ∧ k (sts.foldl putS fr) (sts.foldl appS hp) (recsOf ops 0 sts []) = some r ∧
      ∀ k' : List SV → List Blk → List Rec → Option R, xops E ops 0 ops fr hp [] k' = k' (sts.foldl putS fr) (sts.foldl appS hp) (recsOf ops 0 sts []) := by
  obtain ⟨sts, h1, h2, h2', h3⟩ := xops_inv hE ops 0 fr hp [] k r h
  have e1 : ∀ i t, slotT fr.length sts (fun m => decide (m < i)) (fun t => fr.getD t .dead) t = ((sts.take i).foldl putS fr).getD t .dead := by
    intro i t
    have := foldT_take (g := gs fr.length t) sts 0 i (fr.getD t .dead)
    simp only [Nat.zero_add] at this
    rw [putS_fold_get, ← this]; rfl
  have e2 : ∀ i, lookT sts (fun m => decide (m < i)) (blkOf hp) = blkOf ((sts.take i).foldl appS hp) := by
    intro i; funext j
    have := foldT_take (g := gl j) sts 0 i (blkOf hp j)
    simp only [Nat.zero_add] at this
    rw [appS_fold_get, ← this]; rfl
  refine ⟨sts, ⟨h1, fun i st hi => ?_, fun i st hi => ?_, fun i j st st' hi hj hij q hq => ?_⟩, h2, h2'⟩
  · have := (h3 i st hi).1
    rw [e2, show slotT fr.length sts (fun m => decide (m < i)) (fun t => fr.getD t .dead) = (fun t => ((sts.take i).foldl putS fr).getD t .dead) from funext (e1 i)]
    exact this
  · rw [(h3 i st hi).2]; exact appS_fold_length _ _
  · rw [(h3 j st' hj).2]
    have hs : sts.take j = sts.take i ++ (st :: (sts.take j).drop (i + 1)) := by
      have hi' : (sts.take j)[i]? = some st := by rw [List.getElem?_take, if_pos hij]; exact hi
      have hlt : i < (sts.take j).length := (List.getElem?_eq_some_iff.1 hi').1
      have hg : (sts.take j)[i] = st := (List.getElem?_eq_some_iff.1 hi').2
      conv => lhs; rw [← List.take_append_drop i (sts.take j)]
      rw [List.take_take, Nat.min_eq_left (Nat.le_of_lt hij), List.drop_eq_getElem_cons hlt, hg]
    rw [hs, List.foldl_append, List.foldl_cons]
    exact Nat.lt_of_lt_of_le ((applyD_length st.δ _).2 q hq) (appS_fold_length _ _)

def stepB (acc : Array Nat) (o : Oper) : Array Nat :=
  acc.push (o.after.foldl (fun s e => if Region.binds .any e then s ||| 2 ^ e.on ||| acc.getD e.on 0 else s) 0)

theorem before_eq (ops : Array Oper) : Region.before ops = ops.toList.foldl stepB #[] := by
  rw [Region.before, ← Array.foldl_toList]; rfl

theorem foldB_bits (acc : Array Nat) (i : Nat) : ∀ (es : List Edge) (s : Nat), (es.foldl (fun s e => if Region.binds .any e then s ||| 2 ^ e.on ||| acc.getD e.on 0 else s) s).testBit i = true →
    s.testBit i = true ∨ ∃ e, e ∈ es ∧ Region.binds .any e = true ∧ (i = e.on ∨ (acc.getD e.on 0).testBit i = true)
  | [], s, h => .inl h
  | e :: es, s, h => by
    rw [List.foldl_cons] at h
    rcases foldB_bits acc i es _ h with h | ⟨e', h1, h2⟩
    · split at h
      · rename_i hb
        simp only [Nat.testBit_or, Bool.or_eq_true] at h
        rcases h with (h | h) | h
        · exact .inl h
        · refine .inr ⟨e, by simp, hb, .inl ?_⟩
          rw [Nat.testBit_two_pow] at h; simp at h; exact h.symm
        · exact .inr ⟨e, by simp, hb, .inr h⟩
      · exact .inl h
    · exact .inr ⟨e', by simp [h1], h2⟩

theorem foldB_get : ∀ (os : List Oper) (acc : Array Nat), (os.foldl stepB acc).size = acc.size + os.length ∧ (∀ j, j < acc.size → (os.foldl stepB acc)[j]? = acc[j]?) ∧
    ∀ j o, os[j]? = some o → ∀ i, ((os.foldl stepB acc).getD (acc.size + j) 0).testBit i = true → ∃ e, e ∈ o.after.toList ∧ Region.binds .any e = true ∧ (i = e.on ∨ (e.on < acc.size + j ∧ ((os.foldl stepB acc).getD e.on 0).testBit i = true))
  | [], acc => ⟨rfl, fun _ _ => rfl, by simp⟩
  | o :: os, acc => by
    obtain ⟨h1, h2, h3⟩ := foldB_get os (stepB acc o)
    have hs : (stepB acc o).size = acc.size + 1 := by simp [stepB]
    rw [List.foldl_cons]
    refine ⟨by rw [h1, hs]; simp; omega, fun j hj => ?_, fun j o' ho i hi => ?_⟩
    · rw [h2 j (by omega)]; simp [stepB, Array.getElem?_push, show j ≠ acc.size by omega]
    · cases j with
      | zero =>
        simp at ho; subst ho
        have e0 : ((os.foldl stepB (stepB acc o)).getD (acc.size + 0) 0) = o.after.foldl (fun s e => if Region.binds .any e then s ||| 2 ^ e.on ||| acc.getD e.on 0 else s) 0 := by
          have := h2 acc.size (by omega)
          simp only [Nat.add_zero, Array.getD_eq_getD_getElem?, this]
          simp [stepB]
        rw [e0, ← Array.foldl_toList] at hi
        rcases foldB_bits acc i _ _ hi with h | ⟨e, g1, g2, g3⟩
        · simp at h
        · refine ⟨e, g1, g2, ?_⟩
          rcases g3 with g3 | g3
          · exact .inl g3
          · right
            by_cases hlt : e.on < acc.size
            · refine ⟨by omega, ?_⟩
              have := h2 e.on (by omega)
              simp only [Array.getD_eq_getD_getElem?, this] at g3 ⊢
              simp only [stepB, Array.getElem?_push, show e.on ≠ acc.size by omega, if_false]
              exact g3
            · simp only [Array.getD_eq_getD_getElem?] at g3
              rw [Array.getElem?_eq_none (by omega)] at g3
              simp at g3
      | succ j =>
        have := h3 j o' (by simpa using ho) i (by rw [hs, show acc.size + 1 + j = acc.size + (j + 1) by omega]; exact hi)
        obtain ⟨e, g1, g2, g3⟩ := this
        exact ⟨e, g1, g2, g3.imp id fun g => ⟨by omega, g.2⟩⟩

def Closed (ops : List Oper) (T : Nat → Bool) : Prop := ∀ m o, ops[m]? = some o → T m = true → ∀ e, e ∈ o.after.toList → Region.binds .any e = true → T e.on = true

theorem before_in {ops : Array Oper} {T : Nat → Bool} (hc : Closed ops.toList T) (i : Nat) : ∀ (j : Nat), j < ops.size → (∀ o, ops.toList[j]? = some o → ∀ e, e ∈ o.after.toList → Region.binds .any e = true → T e.on = true) →
    ((Region.before ops).getD j 0).testBit i = true → T i = true := by
  intro j
  induction j using Nat.strongRecOn with
  | _ j ih =>
    intro hj hed hb
    have ho : ops.toList[j]? = some ops[j] := by rw [Array.getElem?_toList, Array.getElem?_eq_getElem hj]
    rw [before_eq] at hb
    obtain ⟨e, g1, g2, g3⟩ := (foldB_get ops.toList #[]).2.2 j _ ho i (by simpa using hb)
    have hT := hed _ ho e g1 g2
    rcases g3 with rfl | ⟨g3, g4⟩
    · exact hT
    · refine ih e.on (by simpa using g3) (by simp at g3; omega) (fun o' ho' e' h1 h2 => hc e.on o' ho' hT e' h1 h2) ?_
      rw [before_eq]; simpa using g4
end
end Go.AM
set_option linter.unusedSimpArgs false
set_option linter.unusedVariables false
namespace Go.AM
section
variable {R : Type} {P : Program} {G : Nat} {H0 : Array Obj} {E : Env R}

theorem apart_recs {before : List Nat} {all : List Oper} : ∀ (sts : List St) (n : Nat) (rs : List Rec), allApart before (recsOf all n sts rs) = true →
    allApart before rs = true ∧ ∀ j st, sts[j]? = some st → (∀ a, a ∈ rs → apartOk before (recOf all (n + j) st.o st.δ st.τ) a = true) ∧
      ∀ i st', sts[i]? = some st' → i < j → apartOk before (recOf all (n + j) st.o st.δ st.τ) (recOf all (n + i) st'.o st'.δ st'.τ) = true
  | [], n, rs, h => ⟨h, by simp⟩
  | s0 :: sts, n, rs, h => by
    obtain ⟨h1, h2⟩ := apart_recs sts (n + 1) _ h
    simp only [allApart, Bool.and_eq_true, List.all_eq_true] at h1
    refine ⟨h1.2, fun j st hj => ?_⟩
    cases j with
    | zero =>
      simp at hj; subst hj
      exact ⟨fun a ha => h1.1 a ha, fun i st' _ hi => by omega⟩
    | succ j =>
      obtain ⟨g1, g2⟩ := h2 j st (by simpa using hj)
      rw [show n + (j + 1) = n + 1 + j by omega]
      refine ⟨fun a ha => g1 a (List.mem_cons_of_mem _ ha), fun i st' hi hij => ?_⟩
      cases i with
      | zero => simp at hi; subst hi; exact g1 _ (by simp)
      | succ i =>
        rw [show n + (i + 1) = n + 1 + i by omega]
        exact g2 i st' (by simpa using hi) (by omega)

theorem apart_of {before : List Nat} {all : List Oper} {m n : Nat} {a b : St} (hmn : n < m) (h : apartOk before (recOf all m a.o a.δ a.τ) (recOf all n b.o b.δ b.τ) = true) (hb : (before.getD m 0).testBit n = false) : Apart all a b := by
  have e1 : max m n = m := by omega
  have e2 : min m n = n := by omega
  simp only [apartOk, recOf, e1, e2, hb, Bool.false_or, Bool.and_eq_true, List.all_eq_true, Bool.not_eq_true', List.contains_eq_mem, decide_eq_false_iff_not] at h
  obtain ⟨⟨⟨h1, h2⟩, h3⟩, h4⟩ := h
  refine ⟨fun i hi => (h1 i hi).1, fun i hi => (h1 i hi).2, h2, fun t ht => ?_, fun t ht => (h3 t (by simp [ht])).2, fun t ht => h4 t (by simp [ht])⟩
  have := (h3 t (by simp [ht])).1
  simpa using this

theorem RelT.congrT {N : Nat} {s0 : Nat → SV} {hp0 : List Blk} {sts : List St} {T T' : Nat → Bool} {w0 : World} {I0 : Nat → Prop} {ρ0 : Nat → Option Info} {a : Act} {w : World} {I : Nat → Prop} {ρ : Nat → Option Info}
    (hT : ∀ m, m < sts.length → T m = T' m) (h : RelT P G H0 N s0 hp0 sts T w0 I0 ρ0 a w I ρ) : RelT P G H0 N s0 hp0 sts T' w0 I0 ρ0 a w I ρ := by
  have hlt : ∀ (m : Nat) (st : St), sts[m]? = some st → m < sts.length := fun m st hm => (List.getElem?_eq_some_iff.1 hm).1
  have e1 : ∀ t, slotT N sts T' s0 t = slotT N sts T s0 t := fun t => foldT_congr _ _ _ fun m st hm => .inl (by rw [Nat.zero_add]; exact (hT m (hlt m st hm)).symm)
  have e2 : lookT sts T' (blkOf hp0) = lookT sts T (blkOf hp0) := funext fun i => foldT_congr _ _ _ fun m st hm => .inl (by rw [Nat.zero_add]; exact (hT m (hlt m st hm)).symm)
  refine ⟨h.size, h.defers, fun t ht => by rw [e1]; exact h.slots t ht, fun i y hi => ?_, by rw [e2]; exact h.post⟩
  rcases h.dom i y hi with g | ⟨m, st, g1, g2, g3⟩
  · exact .inl g
  · exact .inr ⟨m, st, g1, by rw [← hT m (hlt m st g1)]; exact g2, g3⟩

theorem count_set : ∀ (l : List Bool) (i : Nat), l[i]? = some false → (l.set i true).count false + 1 = l.count false
  | [], _, h => by simp at h
  | b :: l, 0, h => by simp at h; subst h; simp
  | b :: l, i + 1, h => by
    have := count_set l i (by simpa using h)
    simp only [List.set_cons_succ, List.count_cons]
    omega

theorem edgesOk_get : ∀ (os : List Oper) (n : Nat), edgesOk n os = true → ∀ i o, os[i]? = some o → ∀ e, e ∈ o.after.toList → Region.binds .any e = true → e.on < n + i
  | [], _, _, i, o, h, _, _, _ => by simp at h
  | o0 :: os, n, h, i, o, hi, e, he, hb => by
    simp only [edgesOk, Bool.and_eq_true, List.all_eq_true] at h
    cases i with
    | zero =>
      simp at hi; subst hi
      have := h.1 e he
      simp [hb] at this; simpa using this
    | succ i =>
      have := edgesOk_get os (n + 1) h.2 i o (by simpa using hi) e he hb
      omega

theorem wpAny_ok (hE : EnvOk P G H0 E) (r0 : R) {ops : Array Oper} {N : Nat} {s0 : Nat → SV} (hs0 : ∀ t, N ≤ t → s0 t = .dead) {hp0 : List Blk} {sts : List St} (hrun : Run E ops.toList N s0 hp0 sts)
    (hap : allApart (Region.before ops).toList (recsOf ops.toList 0 sts []) = true) (hed : edgesOk 0 ops.toList = true) {w0 : World} {I0 : Nat → Prop} {ρ0 : Nat → Option Info} {Q : Exit → Act → World → Prop}
    (hQ : ∀ a w I ρ, RelT P G H0 N s0 hp0 sts (fun m => decide (m < sts.length)) w0 I0 ρ0 a w I ρ → Q .normal a w) :
    ∀ (fuel : Nat) (listed : Array Bool) (a : Act) (w : World) (I : Nat → Prop) (ρ : Nat → Option Info), listed.size = ops.size → Closed ops.toList (fun m => listed.getD m false) → listed.toList.count false ≤ fuel →
      RelT P G H0 N s0 hp0 sts (fun m => listed.getD m false) w0 I0 ρ0 a w I ρ → wpAny P .any ops Q fuel listed a w := by
  have hlen : sts.length = ops.size := by have := congrArg List.length hrun.ops; simpa using this
  have hall : ∀ (listed : Array Bool), listed.size = ops.size → Region.ready .any ops listed = [] → ∀ m, m < ops.size → listed.getD m false = true := by
    intro listed hsz hr m
    induction m using Nat.strongRecOn with
    | _ m ih =>
      intro hm
      cases hl : listed.getD m false with
      | true => rfl
      | false =>
        exfalso
        have : m ∈ Region.ready .any ops listed := by
          refine mem_ready.2 ⟨?_, ops[m], Array.getElem?_eq_getElem hm, fun e he hb => ?_⟩
          · simp only [Array.getD_eq_getD_getElem?] at hl ⊢
            rw [Array.getElem?_eq_getElem (by omega)] at hl ⊢; simpa using hl
          · have := edgesOk_get ops.toList 0 hed m ops[m] (by rw [Array.getElem?_toList]; exact Array.getElem?_eq_getElem hm) e (Array.mem_toList_iff.2 he) hb
            exact ih e.on (by omega) (by omega)
        rw [hr] at this; cases this
  have done : ∀ (listed : Array Bool) (a : Act) (w : World) (I : Nat → Prop) (ρ : Nat → Option Info), listed.size = ops.size → Region.ready .any ops listed = [] →
      RelT P G H0 N s0 hp0 sts (fun m => listed.getD m false) w0 I0 ρ0 a w I ρ → Q .normal a w := by
    intro listed a w I ρ hsz hr hrel
    refine hQ a w I ρ (hrel.congrT fun m hm => ?_)
    rw [hall listed hsz hr m (by omega)]; simp [hm]
  intro fuel
  induction fuel with
  | zero =>
    intro listed a w I ρ hsz hc hcnt hrel
    have hr : Region.ready .any ops listed = [] := by
      apply List.eq_nil_iff_forall_not_mem.2
      intro i hi
      have h1 := (mem_ready.1 hi).1
      have hlt : i < listed.size := by
        rcases Nat.lt_or_ge i listed.size with h | h
        · exact h
        · simp [Array.getElem?_eq_none h] at h1
      have hz : listed.toList.count false = 0 := by omega
      rw [List.count_eq_zero] at hz
      apply hz
      simp only [Array.getD_eq_getD_getElem?, Array.getElem?_eq_getElem hlt, Option.getD_some] at h1
      rw [← h1]; simp
    exact ⟨hr, done listed a w I ρ hsz hr hrel⟩
  | succ fuel ih =>
    intro listed a w I ρ hsz hc hcnt hrel
    refine ⟨fun hr => done listed a w I ρ hsz hr hrel, fun n hn => ?_⟩
    obtain ⟨h1, o, ho, hedges⟩ := mem_ready.1 hn
    have hlt : n < ops.size := (Array.getElem?_eq_some_iff.1 ho).1
    have hlf : listed.getD n false = false := by
      simp only [Array.getD_eq_getD_getElem?] at h1 ⊢
      rw [Array.getElem?_eq_getElem (by omega)] at h1 ⊢; simpa using h1
    obtain ⟨st, hst⟩ : ∃ st, sts[n]? = some st := ⟨sts[n], List.getElem?_eq_getElem (by omega)⟩
    have hbits : ∀ i j, j < ops.size → (∀ o, ops.toList[j]? = some o → ∀ e, e ∈ o.after.toList → Region.binds .any e = true → listed.getD e.on false = true) → listed.getD i false = false →
        ((Region.before ops).toList.getD j 0).testBit i = false := by
      intro i j hj hed' hi
      cases hb : ((Region.before ops).toList.getD j 0).testBit i with
      | false => rfl
      | true =>
        have := before_in hc i j hj hed' (by simpa [List.getD_eq_getElem?_getD, Array.getD_eq_getD_getElem?] using hb)
        rw [hi] at this; cases this
    have hset : ∀ m, (listed.setIfInBounds n true).getD m false = (listed.getD m false || m == n) := by
      intro m
      by_cases h : m = n
      · subst h; simp [show m < listed.size by omega]
      · simp [Array.getElem?_setIfInBounds_ne (Ne.symm h), h]
    refine step_T hE r0 hs0 hrun hst hlf (fun m st' hm hcase => ?_) hrel fun a' w' I' ρ' hrel' => ?_
    · have hm' : m < sts.length := (List.getElem?_eq_some_iff.1 hm).1
      rcases hcase with ⟨hlt', hf⟩ | ⟨hlt', ht⟩
      · have h2 := ((apart_recs sts 0 [] hap).2 n st hst).2 m st' hm hlt'
        rw [Nat.zero_add, Nat.zero_add] at h2
        refine (apart_of hlt' h2 (hbits m n hlt (fun o' ho' e he hb => ?_) hf)).symm
        rw [Array.getElem?_toList, ho] at ho'; cases ho'
        exact hedges e (Array.mem_toList_iff.1 he) hb
      · have h2 := ((apart_recs sts 0 [] hap).2 m st' hm).2 n st hst hlt'
        rw [Nat.zero_add, Nat.zero_add] at h2
        exact apart_of hlt' h2 (hbits n m (by omega) (fun o' ho' e he hb => hc m o' ho' ht e he hb) hlf)
    · refine ih (listed.setIfInBounds n true) a' w' I' ρ' (by simpa using hsz) (fun m o' ho' hT e he hb => ?_) ?_ (hrel'.congrT fun m _ => (hset m).symm)
      · simp only [hset, Bool.or_eq_true] at hT ⊢
        rcases hT with hT | hT
        · exact .inl (hc m o' ho' hT e he hb)
        · have hmn : m = n := by simpa using hT
          subst hmn
          rw [Array.getElem?_toList, ho] at ho'; cases ho'
          exact .inl (hedges e (Array.mem_toList_iff.1 he) hb)
      · have := count_set listed.toList n (by
          rw [Array.getElem?_toList, Array.getElem?_eq_getElem (by omega)]
          simp only [Array.getD_eq_getD_getElem?] at hlf
          rw [Array.getElem?_eq_getElem (by omega)] at hlf; simpa using hlf)
        rw [Array.toList_setIfInBounds]; omega

theorem wpOps_ok (hE : EnvOk P G H0 E) (r0 : R) {ops : Array Oper} {N : Nat} {s0 : Nat → SV} (hs0 : ∀ t, N ≤ t → s0 t = .dead) {hp0 : List Blk} {sts : List St} (hrun : Run E ops.toList N s0 hp0 sts)
    {w0 : World} {I0 : Nat → Prop} {ρ0 : Nat → Option Info} {Q : Exit → Act → World → Prop}
    (hQ : ∀ a w I ρ, RelT P G H0 N s0 hp0 sts (fun m => decide (m < sts.length)) w0 I0 ρ0 a w I ρ → Q .normal a w) :
    ∀ (l i : Nat) (a : Act) (w : World) (I : Nat → Prop) (ρ : Nat → Option Info), i + l = sts.length → RelT P G H0 N s0 hp0 sts (fun m => decide (m < i)) w0 I0 ρ0 a w I ρ → wpOps P ops Q (List.range' i l) a w
  | 0, i, a, w, I, ρ, hi, hrel => by
    simp only [List.range'_zero, wpOps]
    rw [Nat.add_zero] at hi; subst hi
    exact hQ a w I ρ hrel
  | l + 1, i, a, w, I, ρ, hi, hrel => by
    rw [List.range'_succ, wpOps_cons]
    obtain ⟨st, hst⟩ : ∃ st, sts[i]? = some st := ⟨sts[i], List.getElem?_eq_getElem (by omega)⟩
    refine step_T hE r0 hs0 hrun hst (by simp) (fun m st' hm hcase => ?_) hrel fun a' w' I' ρ' hrel' => wpOps_ok hE r0 hs0 hrun hQ l (i + 1) a' w' I' ρ' (by omega) (hrel'.congrT fun m _ => ?_)
    · simp only [decide_eq_false_iff_not, decide_eq_true_eq] at hcase; omega
    · by_cases h : m < i
      · simp [h, show m < i + 1 by omega]
      · by_cases h' : m = i
        · subst h'; simp
        · simp [h, h', show ¬ m < i + 1 by omega]

structure Rel (P : Program) (G : Nat) (H0 : Array Obj) (fr : List SV) (hp : List Blk) (a : Act) (w : World) (I : Nat → Prop) (ρ : Nat → Option Info) : Prop where
  size : a.tmps.size = fr.length
  defers : a.defers = []
  slots : ∀ t, t < fr.length → FR w I ρ (fr.getD t .dead) (a.tmps.getD t undef)
  dom : ∀ i y, ρ i = some y → i < hp.length
  real : Real G H0 w I ρ (blkOf hp)

theorem region_ok (hE : EnvOk P G H0 E) (hm : P.follows .mixedOrders = true) {q : Nat} {ops : Array Oper} {draw : Bool} {fr : List SV} {hp : List Blk} {k : List SV → List Blk → Option R} {r : R} (h : xregion E ops draw fr hp k = some r) :
    ∃ fr' hp', k fr' hp' = some r ∧ (∀ k' : List SV → List Blk → Option R, xregion E ops draw fr hp k' = k' fr' hp') ∧ hp.length ≤ hp'.length ∧ ∀ a w I ρ (Q : Exit → Act → World → Prop), Rel P G H0 fr hp a w I ρ →
      (∀ a' w' I' ρ', Rel P G H0 fr' hp' a' w' I' ρ' → Post G H0 w I ρ (blkOf hp) w' I' ρ' (blkOf hp') → Q .normal a' w') → (Code.region q ops draw).wp P Q a w := by
  obtain ⟨sts, hrun, hk, hk'⟩ := run_of (G := G) (H0 := H0) hE h
  have hlen : sts.length = ops.size := by have := congrArg List.length hrun.ops; simpa using this
  have hs0 : ∀ t, fr.length ≤ t → (fun t => fr.getD t .dead) t = SV.dead := fun t ht => by
    simp only [List.getD_eq_getElem?_getD]; rw [List.getElem?_eq_none ht]; rfl
  have e1 : ∀ t, slotT fr.length sts (fun m => decide (m < sts.length)) (fun t => fr.getD t .dead) t = (sts.foldl putS fr).getD t .dead := by
    intro t
    have := foldT_take (g := gs fr.length t) sts 0 sts.length (fr.getD t .dead)
    simp only [Nat.zero_add, List.take_length] at this
    rw [putS_fold_get, ← this]; rfl
  have e2 : lookT sts (fun m => decide (m < sts.length)) (blkOf hp) = blkOf (sts.foldl appS hp) := by
    funext j
    have := foldT_take (g := gl j) sts 0 sts.length (blkOf hp j)
    simp only [Nat.zero_add, List.take_length] at this
    rw [appS_fold_get, ← this]; rfl
  have hkeys : ∀ (sts : List St) (hp : List Blk) (m : Nat) (st : St), sts[m]? = some st → ∀ i, i ∈ st.δ.map (·.1) → i < (sts.foldl appS hp).length := by
    intro sts
    induction sts with
    | nil => intro hp m st hm; simp at hm
    | cons s0 sts ih =>
      intro hp m st hm i hi
      cases m with
      | zero =>
        simp at hm; subst hm
        rw [List.foldl_cons]
        exact Nat.lt_of_lt_of_le ((applyD_length s0.δ hp).2 i hi) (appS_fold_length _ _)
      | succ m => rw [List.foldl_cons]; exact ih _ m st (by simpa using hm) i hi
  have fin : ∀ {w0 I0 ρ0 a w I ρ}, RelT P G H0 fr.length (fun t => fr.getD t .dead) hp sts (fun m => decide (m < sts.length)) w0 I0 ρ0 a w I ρ → Rel P G H0 (sts.foldl putS fr) (sts.foldl appS hp) a w I ρ := by
    intro w0 I0 ρ0 a w I ρ hrel
    refine ⟨by rw [putS_fold_length]; exact hrel.size, hrel.defers, fun t ht => by rw [putS_fold_length] at ht; rw [← e1]; exact hrel.slots t ht, fun i y hi => ?_, by rw [← e2]; exact hrel.post.real⟩
    rcases hrel.dom i y hi with g | ⟨m, st, g1, g2, g3⟩
    · exact Nat.lt_of_lt_of_le g (appS_fold_length _ _)
    · exact hkeys sts hp m st g1 i g3
  have beg : ∀ {a w I ρ}, Rel P G H0 fr hp a w I ρ → RelT P G H0 fr.length (fun t => fr.getD t .dead) hp sts (fun m => decide (m < 0)) w I ρ a w I ρ := by
    intro a w I ρ hrel
    have f1 : ∀ t, slotT fr.length sts (fun m => decide (m < 0)) (fun t => fr.getD t .dead) t = fr.getD t .dead := fun t => foldT_id _ _ _ fun m st _ h => by simp at h
    have f2 : lookT sts (fun m => decide (m < 0)) (blkOf hp) = blkOf hp := funext fun i => foldT_id _ _ _ fun m st _ h => by simp at h
    exact ⟨hrel.size, hrel.defers, fun t ht => by rw [f1]; exact hrel.slots t ht, fun i y hi => .inl (hrel.dom i y hi), by rw [f2]; exact Post.refl hrel.real⟩
  cases draw with
  | false =>
    simp only at hk
    refine ⟨_, _, hk, fun k' => by simp only [xregion, hk'], appS_fold_length _ _, fun a w I ρ Q hrel hQ => wp_region ?_⟩
    have := wpOps_ok hE r hs0 hrun (w0 := w) (I0 := I) (ρ0 := ρ) (Q := Q) (fun a' w' I' ρ' h => hQ a' w' I' ρ' (fin h) (by rw [← e2]; exact h.post)) sts.length 0 a w I ρ (by omega) (beg hrel)
    rwa [hlen, ← List.range_eq_range'] at this
  | true =>
    simp only at hk
    obtain ⟨hb, hk⟩ := bif_some hk
    simp only [Bool.and_eq_true] at hb
    refine ⟨_, _, hk, fun k' => by simp only [xregion, hk', hb, Bool.and_self, cond_true], appS_fold_length _ _, fun a w I ρ Q hrel hQ => wp_region_any hm ?_⟩
    have hdraw : Post G H0 w I ρ (blkOf hp) { w with drawn := w.drawn + 1 } I ρ (blkOf hp) := hrel.real.same rfl rfl rfl rfl
    have hrel' : Rel P G H0 fr hp a { w with drawn := w.drawn + 1 } I ρ :=
      ⟨hrel.size, hrel.defers, fun t ht => (hrel.slots t ht).mono hdraw.stay hdraw.ext, hrel.dom, hdraw.real⟩
    refine wpAny_ok hE r hs0 hrun hb.2 hb.1 (w0 := { w with drawn := w.drawn + 1 }) (I0 := I) (ρ0 := ρ) (Q := Q) (fun a' w' I' ρ' h => hQ a' w' I' ρ' (fin h) (hdraw.trans (by rw [← e2]; exact h.post))) ops.size _ a _ I ρ (by simp) ?_ ?_ ?_
    · intro m o _ hT; simp at hT
      by_cases hm' : m < ops.size
      · simp [hm'] at hT
      · simp [hm'] at hT
    · simp
    · exact (beg hrel').congrT fun m hm' => by simp [show m < ops.size by omega]
end
end Go.AM
set_option linter.unusedSimpArgs false
set_option linter.unusedVariables false
namespace Go.AM

def Grows (s t : List Nat) : Prop := s <+: t ∧ (s.Nodup → t.Nodup)

theorem Grows.refl (s : List Nat) : Grows s s := ⟨List.prefix_rfl, id⟩
theorem Grows.trans {s t u : List Nat} (h : Grows s t) (h' : Grows t u) : Grows s u := ⟨h.1.trans h'.1, fun hs => h'.2 (h.2 hs)⟩

theorem see_grows (s : List Nat) (i : Nat) : Grows s (see s i) := by
  unfold see
  split
  · exact .refl s
  · rename_i h
    refine ⟨List.prefix_append _ _, fun hs => ?_⟩
    rw [List.nodup_append]
    refine ⟨hs, by simp, fun a ha b hb => ?_⟩
    simp at hb; subst hb
    intro e; subst e
    exact h (by simpa using ha)

theorem seeL_grows (look : Look) (s : List Nat) (i : Nat) : Grows s (match look i with | .dead => s | _ => see s i) := by
  split
  · exact .refl s
  · exact see_grows s i

mutual
theorem refs_grows (look : Look) : ∀ (v : SV) (s : List Nat), Grows s (refs look v s)
  | .ptr i _, s => seeL_grows look s i
  | .rptr i _ _, s => seeL_grows look s i
  | .aptr i _ _ _ _ _, s => seeL_grows look s i
  | .sl i _, s => seeL_grows look s i
  | .asl i _ _ _, s => seeL_grows look s i
  | .mapr i, s => seeL_grows look s i
  | .fn _ cs, s => refsL_grows look cs s
  | .agg cs, s => refsL_grows look cs s
  | .tup cs, s => refsL_grows look cs s
  | .iface _ v, s => refs_grows look v s
  | .pv _ _, s => .refl s
  | .emp, s => .refl s
  | .nils, s => .refl s
  | .nilp, s => .refl s
  | .nilm, s => .refl s
  | .nilf, s => .refl s
  | .nili, s => .refl s
  | .undef, s => .refl s
  | .dead, s => .refl s
theorem refsL_grows (look : Look) : ∀ (vs : List SV) (s : List Nat), Grows s (refs.refsL look vs s)
  | [], s => .refl s
  | v :: vs, s => (refs_grows look v s).trans (refsL_grows look vs _)
end

theorem blkRefs_grows (look : Look) (B : Blk) (s : List Nat) : Grows s (blkRefs look B s) := by
  cases B with
  | box es t => exact refsL_grows look es s
  | _ => exact .refl s

theorem close_grows (look : Look) : ∀ (n j : Nat) (s : List Nat), Grows s (close look n j s)
  | 0, _, s => .refl s
  | n + 1, j, s => by
    rw [close]
    split
    · exact (blkRefs_grows look _ s).trans (close_grows look n (j + 1) _)
    · exact .refl s

theorem idxOf_get : ∀ (l : List Nat) (i j : Nat), idxOf l i = some j → l[j]? = some i
  | [], _, _, h => by simp [idxOf] at h
  | a :: l, i, j, h => by
    rw [idxOf] at h
    split at h
    · rename_i e; simp at h; subst h; subst e; rfl
    · obtain ⟨j', h1, rfl⟩ := Option.map_eq_some_iff.1 h
      simpa using idxOf_get l i j' h1

theorem liveIdx_get {look : Look} {s : List Nat} {i j : Nat} (h : liveIdx look s i = some j) : s[j]? = some i ∧ look i ≠ .dead := by
  unfold liveIdx at h
  split at h
  · cases h
  · rename_i hl; exact ⟨idxOf_get s i j h, fun e => hl e⟩

section
variable {w : World} {I : Nat → Prop} {ρ ρ' : Nat → Option Info} {σ : Nat → Option Nat}

mutual
theorem ren_fr (hσ : ∀ i i' y, σ i = some i' → ρ i = some y → ρ' i' = some y) : ∀ (v : SV) (x : Value), FR w I ρ v x → FR w I ρ' (ren σ v) x
  | .pv t y, x, h => by simp only [ren]; rw [FR] at *; exact h
  | .ptr i c, x, h => by
    rw [ren]
    cases hi : σ i with
    | none => simp only [FR]
    | some i' => simp only [FR] at h ⊢; obtain ⟨y, b, h1, h2⟩ := h; exact ⟨y, b, hσ i i' y hi h1, h2⟩
  | .rptr i e j, x, h => by
    rw [ren]
    cases hi : σ i with
    | none => simp only [FR]
    | some i' => simp only [FR] at h ⊢; obtain ⟨y, b, h1, h2⟩ := h; exact ⟨y, b, hσ i i' y hi h1, h2⟩
  | .aptr i c n k e j, x, h => by
    rw [ren]
    cases hi : σ i with
    | none => simp only [FR]
    | some i' => simp only [FR] at h ⊢; obtain ⟨y, b, h1, h2⟩ := h; exact ⟨y, b, hσ i i' y hi h1, h2⟩
  | .sl i win, x, h => by
    rw [ren]
    cases hi : σ i with
    | none => simp only [FR]
    | some i' => simp only [FR] at h ⊢; obtain ⟨y, h1, h2⟩ := h; exact ⟨y, hσ i i' y hi h1, h2⟩
  | .asl i c n k, x, h => by
    rw [ren]
    cases hi : σ i with
    | none => simp only [FR]
    | some i' => simp only [FR] at h ⊢; obtain ⟨y, b, h1, h2⟩ := h; exact ⟨y, b, hσ i i' y hi h1, h2⟩
  | .mapr i, x, h => by
    rw [ren]
    cases hi : σ i with
    | none => simp only [FR]
    | some i' => simp only [FR] at h ⊢; obtain ⟨y, b, h1, h2⟩ := h; exact ⟨y, b, hσ i i' y hi h1, h2⟩
  | .fn f cs, x, h => by
    rw [ren]; rw [FR] at h ⊢
    obtain ⟨vs, e, h⟩ := h
    exact ⟨vs, e, renL_frs hσ cs _ h⟩
  | .agg cs, x, h => by
    rw [ren]; rw [FR] at h ⊢
    obtain ⟨vs, e, h⟩ := h
    exact ⟨vs, e, renL_ers hσ cs _ h⟩
  | .tup cs, x, h => by
    rw [ren]; rw [FR] at h ⊢
    obtain ⟨vs, e, h⟩ := h
    exact ⟨vs, e, renL_frs hσ cs _ h⟩
  | .iface t v, x, h => by
    rw [ren]; rw [FR] at h ⊢
    obtain ⟨y, e, h⟩ := h
    exact ⟨y, e, ren_fr hσ v y h⟩
  | .emp, x, h => by simp only [ren]; rw [FR] at *; exact h
  | .nils, x, h => by simp only [ren]; rw [FR] at *; exact h
  | .nilp, x, h => by simp only [ren]; rw [FR] at *; exact h
  | .nilm, x, h => by simp only [ren]; rw [FR] at *; exact h
  | .nilf, x, h => by simp only [ren]; rw [FR] at *; exact h
  | .nili, x, h => by simp only [ren]; rw [FR] at *; exact h
  | .undef, x, h => by simp only [ren]; rw [FR] at *; exact h
  | .dead, x, h => by simp only [ren]; rw [FR]; trivial
theorem renL_frs (hσ : ∀ i i' y, σ i = some i' → ρ i = some y → ρ' i' = some y) : ∀ (vs : List SV) (xs : List Value), FRs w I ρ vs xs → FRs w I ρ' (ren.renL σ vs) xs
  | [], xs, h => by rw [ren.renL]; rw [FRs] at *; exact h
  | v :: vs, xs, h => by
    rw [ren.renL]; rw [FRs] at *
    obtain ⟨x, r, e, h1, h2⟩ := h
    exact ⟨x, r, e, ren_fr hσ v x h1, renL_frs hσ vs r h2⟩
theorem renL_ers (hσ : ∀ i i' y, σ i = some i' → ρ i = some y → ρ' i' = some y) : ∀ (vs : List SV) (xs : List Value), ERs w I ρ vs xs → ERs w I ρ' (ren.renL σ vs) xs
  | [], xs, h => by rw [ren.renL]; rw [ERs] at *; exact h
  | v :: vs, xs, h => by
    rw [ren.renL]; rw [ERs] at *
    obtain ⟨l, r, e, h1, h2⟩ := h
    refine ⟨l, r, e, ?_, renL_ers hσ vs r h2⟩
    have ht := ren_fr hσ v
    constructor
    · intro t x hx
      cases v with
      | pv t' x' => simp only [ren] at hx; cases hx; exact h1.1 _ _ rfl
      | ptr i c => simp only [ren] at hx; cases hi : σ i <;> rw [hi] at hx <;> cases hx
      | rptr i => simp only [ren] at hx; cases hi : σ i <;> rw [hi] at hx <;> cases hx
      | aptr i => simp only [ren] at hx; cases hi : σ i <;> rw [hi] at hx <;> cases hx
      | sl i => simp only [ren] at hx; cases hi : σ i <;> rw [hi] at hx <;> cases hx
      | asl i => simp only [ren] at hx; cases hi : σ i <;> rw [hi] at hx <;> cases hx
      | mapr i => simp only [ren] at hx; cases hi : σ i <;> rw [hi] at hx <;> cases hx
      | _ => simp only [ren] at hx; cases hx
    · intro hp
      cases v with
      | pv t' x' => simp only [ren] at hp; cases hp
      | _ =>
        obtain ⟨x, e1, e2, e3⟩ := h1.2 rfl
        exact ⟨x, e1, e2, ht x e3⟩
end
end

section
variable {R : Type} {P : Program} {G : Nat} {H0 : Array Obj}

structure Chain (w : World) (I O : Nat → Prop) (w' : World) (I' O' : Nat → Prop) : Prop where
  stay : Stay w I w' I'
  size : w.heap.size ≤ w'.heap.size
  frame : ∀ b, b < w.heap.size → ¬ O b → w'.heap[b]? = w.heap[b]?
  own : ∀ b, O' b → O b ∨ w.heap.size ≤ b
  pubd : ∀ b, I' b → I b ∨ O b ∨ w.heap.size ≤ b
  os : w'.os = w.os
  tape : w'.tape = w.tape
  output : w'.output = w.output

theorem Chain.refl (w : World) (I O : Nat → Prop) : Chain w I O w I O :=
  ⟨Stay.refl _ _, Nat.le_refl _, fun _ _ _ => rfl, fun _ h => .inl h, fun _ h => .inl h, rfl, rfl, rfl⟩

theorem Chain.trans {w w' w'' : World} {I I' I'' O O' O'' : Nat → Prop} (h : Chain w I O w' I' O') (h' : Chain w' I' O' w'' I'' O'') : Chain w I O w'' I'' O'' where
  stay := h.stay.trans h'.stay
  size := Nat.le_trans h.size h'.size
  frame b hb ho := by
    rw [h'.frame b (Nat.lt_of_lt_of_le hb h.size) (fun o => by
      rcases h.own b o with o | o
      · exact ho o
      · omega), h.frame b hb ho]
  own b hb := by
    rcases h'.own b hb with o | o
    · exact h.own b o
    · exact .inr (Nat.le_trans h.size o)
  pubd b hb := by
    rcases h'.pubd b hb with o | o | o
    · exact h.pubd b o
    · rcases h.own b o with o | o
      · exact .inr (.inl o)
      · exact .inr (.inr o)
    · exact .inr (.inr (Nat.le_trans h.size o))
  os := h'.os.trans h.os
  tape := h'.tape.trans h.tape
  output := h'.output.trans h.output

theorem Post.chain {w w' : World} {I I' : Nat → Prop} {ρ ρ' : Nat → Option Info} {look look' : Look} (h : Post G H0 w I ρ look w' I' ρ' look') : Chain w I (Own ρ look) w' I' (Own ρ' look') :=
  ⟨h.stay, h.size, h.frame, h.own, h.pubd, h.os, h.tape, h.output⟩

theorem Chain.less {w : World} {I O O' : Nat → Prop} (h : ∀ b, O' b → O b) : Chain w I O w I O' :=
  ⟨Stay.refl _ _, Nat.le_refl _, fun _ _ _ => rfl, fun b hb => .inl (h b hb), fun _ h => .inl h, rfl, rfl, rfl⟩

def newRho (ρ : Nat → Option Info) (s : List Nat) (j : Nat) : Option Info := match s[j]? with
  | some i => ρ i
  | none => none

theorem blkOf_pick (look : Look) (s : List Nat) (j : Nat) : blkOf (pick look s) j = match s[j]? with | some i => blkRen (liveIdx look s) (look i) | none => .dead := by
  simp only [blkOf, pick, List.getD_eq_getElem?_getD, List.getElem?_map]
  cases s[j]? <;> rfl

theorem blkRen_dead {σ : Nat → Option Nat} {B : Blk} (h : blkRen σ B ≠ .dead) : B ≠ .dead := by
  intro e; subst e; exact h rfl

theorem pick_real {w : World} {I : Nat → Prop} {ρ : Nat → Option Info} {look : Look} (hre : Real G H0 w I ρ look) {s : List Nat} (hs : s.Nodup) :
    Real G H0 w I (newRho ρ s) (blkOf (pick look s)) ∧ (∀ b, Own (newRho ρ s) (blkOf (pick look s)) b → Own ρ look b) ∧
    (∀ i i', liveIdx look s i = some i' → newRho ρ s i' = ρ i) := by
  have hσ : ∀ i i', liveIdx look s i = some i' → newRho ρ s i' = ρ i := fun i i' h => by simp only [newRho, (liveIdx_get h).1]
  have hown : ∀ b, Own (newRho ρ s) (blkOf (pick look s)) b → Own ρ look b := by
    rintro b ⟨j, x, h1, h2, h3⟩
    rw [blkOf_pick] at h1
    unfold newRho at h2
    cases hj : s[j]? with
    | none => rw [hj] at h2; cases h2
    | some i => rw [hj] at h1 h2; exact ⟨i, x, blkRen_dead h1, h2, h3⟩
  refine ⟨⟨fun j => ?_, fun i j x y b h1 h2 h3 h4 h5 h6 => ?_, fun b hb => hre.own b (hown b hb), hre.imm, hre.glob, hre.gsz⟩, hown, hσ⟩
  · rw [blkOf_pick]
    cases hj : s[j]? with
    | none => trivial
    | some i =>
      simp only
      have hb := hre.blk i
      have hr : newRho ρ s j = ρ i := by simp only [newRho, hj]
      cases hl : look i with
      | dead => trivial
      | box es ety =>
        rw [hl] at hb
        obtain ⟨x, b, arr, fz, g1, g2, g3, g4, g5⟩ := hb
        exact ⟨x, b, arr, fz, by rw [hr]; exact g1, g2, g3, g4, renL_ers (fun i i' y h1 h2 => by rw [hσ i i' h1]; exact h2) es _ g5⟩
      | row t xs ety gr =>
        rw [hl] at hb
        obtain ⟨x, g1, g2⟩ := hb
        exact ⟨x, by rw [hr]; exact g1, g2⟩
      | map kt vt es =>
        rw [hl] at hb
        obtain ⟨x, b, ents, clock, g1, g2⟩ := hb
        exact ⟨x, b, ents, clock, by rw [hr]; exact g1, g2⟩
  · rw [blkOf_pick] at h1 h2
    unfold newRho at h3 h4
    cases hi : s[i]? with
    | none => rw [hi] at h3; cases h3
    | some i' =>
      cases hj : s[j]? with
      | none => rw [hj] at h4; cases h4
      | some j' =>
        rw [hi] at h1 h3; rw [hj] at h2 h4
        have := hre.inj i' j' x y b (blkRen_dead h1) (blkRen_dead h2) h3 h4 h5 h6
        subst this
        obtain ⟨a1, a2⟩ := List.getElem?_eq_some_iff.1 hi
        obtain ⟨b1, b2⟩ := List.getElem?_eq_some_iff.1 hj
        have hpw := List.pairwise_iff_getElem.1 hs
        rcases Nat.lt_trichotomy i j with h | h | h
        · exact absurd (a2.trans b2.symm) (hpw i j a1 b1 h)
        · exact h
        · exact absurd (b2.trans a2.symm) (hpw j i b1 a1 h)

theorem newRho_dom {ρ : Nat → Option Info} {s : List Nat} {look : Look} {i : Nat} {y : Info} (h : newRho ρ s i = some y) : i < (pick look s).length := by
  unfold newRho at h
  split at h
  · rename_i hj; simpa [pick] using (List.getElem?_eq_some_iff.1 hj).1
  · cases h

theorem keepOnly_get (look : Look) (s live : List Nat) : ∀ (fr : List SV) (n t : Nat), (keepOnly look s live n fr).getD t .dead = if live.contains (n + t) then ren (liveIdx look s) (fr.getD t .dead) else .dead
  | [], n, t => by simp [keepOnly, ren]
  | v :: vs, n, 0 => by simp [keepOnly]
  | v :: vs, n, t + 1 => by
    have := keepOnly_get look s live vs (n + 1) t
    simp only [keepOnly, List.getD_cons_succ]
    rw [this, show n + 1 + t = n + (t + 1) by omega]

theorem keepOnly_length (look : Look) (s live : List Nat) : ∀ (fr : List SV) (n : Nat), (keepOnly look s live n fr).length = fr.length
  | [], _ => rfl
  | v :: vs, n => by simp [keepOnly, keepOnly_length look s live vs]

def Keeps (n0 : Nat) (ρ ρ' : Nat → Option Info) : Prop := ∀ i x, i < n0 → ρ i = some x → ρ' i = some x

theorem Keeps.refl (n0 : Nat) (ρ : Nat → Option Info) : Keeps n0 ρ ρ := fun _ _ _ h => h
theorem Keeps.trans {n0 : Nat} {ρ ρ' ρ'' : Nat → Option Info} (h : Keeps n0 ρ ρ') (h' : Keeps n0 ρ' ρ'') : Keeps n0 ρ ρ'' := fun i x hi hx => h' i x hi (h i x hi hx)
theorem Ext.keeps {ρ ρ' : Nat → Option Info} (h : Ext ρ ρ') (n0 : Nat) : Keeps n0 ρ ρ' := fun i x _ hx => h i x hx

theorem newRho_keeps {ρ : Nat → Option Info} {n0 : Nat} {s : List Nat} (h : List.range n0 <+: s) : Keeps n0 ρ (newRho ρ s) := by
  intro i x hi hx
  obtain ⟨t, rfl⟩ := h
  unfold newRho
  rw [List.getElem?_append_left (by simpa using hi), List.getElem?_range hi]; exact hx

theorem canon_ok {n0 : Nat} {live : List Nat} {fr : List SV} {hp : List Blk} {a : Act} {w : World} {I : Nat → Prop} {ρ : Nat → Option Info} (h : Rel P G H0 fr hp a w I ρ) :
    ∃ ρ', Rel P G H0 (canon n0 live fr hp).1 (canon n0 live fr hp).2 a w I ρ' ∧ Keeps n0 ρ ρ' ∧ (∀ b, Own ρ' (blkOf (canon n0 live fr hp).2) b → Own ρ (blkOf hp) b) ∧ n0 ≤ (canon n0 live fr hp).2.length := by
  have hg := (refsL_grows (blkOf hp) (live.map fun t => fr.getD t .dead) (List.range n0)).trans (close_grows (blkOf hp) FUEL 0 _)
  have hnd := hg.2 List.nodup_range
  obtain ⟨h1, h2, h3⟩ := pick_real h.real hnd
  refine ⟨_, ⟨by simp only [canon, keepOnly_length]; exact h.size, h.defers, fun t ht => ?_, fun i y hi => newRho_dom hi, h1⟩, newRho_keeps hg.1, h2, ?_⟩
  · simp only [canon, keepOnly_length] at ht ⊢
    rw [keepOnly_get]
    split
    · exact ren_fr (fun i i' y g1 g2 => by rw [h3 i i' g1]; exact g2) _ _ (h.slots t ht)
    · rw [FR]; trivial
  · simp only [canon, pick, List.length_map]
    have := hg.1.length_le
    simpa using this
end
end Go.AM
set_option linter.unusedSimpArgs false
set_option linter.unusedVariables false
namespace Go.AM
section
variable {R : Type} {P : Program} {G : Nat} {H0 : Array Obj}

theorem blkOf_push (hp : List Blk) (B : Blk) : blkOf (hp ++ [B]) = upd (blkOf hp) hp.length B := by
  funext j
  simp only [blkOf, List.getD_eq_getElem?_getD, upd]
  by_cases h : j = hp.length
  · subst h; simp
  · rw [if_neg h]
    by_cases h' : j < hp.length
    · rw [List.getElem?_append_left h']
    · rw [List.getElem?_eq_none (by simp; omega), List.getElem?_eq_none (by omega)]

theorem blkOf_out (hp : List Blk) {j : Nat} (h : hp.length ≤ j) : blkOf hp j = .dead := by
  simp only [blkOf, List.getD_eq_getElem?_getD]; rw [List.getElem?_eq_none h]; rfl

structure Mem (G : Nat) (H0 : Array Obj) (hp : List Blk) (w : World) (I : Nat → Prop) (ρ : Nat → Option Info) : Prop where
  dom : ∀ i y, ρ i = some y → i < hp.length
  real : Real G H0 w I ρ (blkOf hp)

theorem Mem.addRow {hp : List Blk} {w : World} {I : Nat → Prop} {ρ : Nat → Option Info} (h : Mem G H0 hp w I ρ) (t : Ty) (e : Nat) :
    Mem G H0 (hp ++ [.row t [] e true]) w I (upd ρ hp.length (some ⟨none, 0, 0, 0, t.size⟩)) ∧ Ext ρ (upd ρ hp.length (some ⟨none, 0, 0, 0, t.size⟩)) ∧
      ∀ b, Own (upd ρ hp.length (some ⟨none, 0, 0, 0, t.size⟩)) (blkOf (hp ++ [.row t [] e true])) b → Own ρ (blkOf hp) b := by
  have hp0 : ρ hp.length = none := by
    cases hr : ρ hp.length with
    | none => rfl
    | some y => exact absurd (h.dom _ y hr) (Nat.lt_irrefl _)
  have hpost : Post G H0 w I ρ (blkOf hp) w I (upd ρ hp.length (some ⟨none, 0, 0, 0, t.size⟩)) (blkOf (hp ++ [.row t [] e true])) := by
    refine h.real.birth hp0 (fun j hj => by rw [blkOf_push, upd_other _ _ hj]) (Nat.le_refl _) (fun _ _ => rfl) (by simp) ?_ rfl rfl rfl
    rw [blkOf_push, upd_same]
    exact ⟨_, upd_same _ _ _, rfl, rfl, by simp, by simp, by simp, by simp⟩
  refine ⟨⟨fun i y hi => ?_, hpost.real⟩, hpost.ext, fun b hb => ?_⟩
  · by_cases e' : i = hp.length
    · subst e'; simp
    · rw [upd_other _ _ e'] at hi; have := h.dom i y hi; simp; omega
  · rcases hpost.own b hb with o | o
    · exact o
    · have := (hpost.real.own b hb).1; omega

theorem nil_row_fr {w : World} {I : Nat → Prop} {ρ : Nat → Option Info} {p : Nat} {t : Ty} : FR w I (upd ρ p (some ⟨none, 0, 0, 0, t.size⟩)) (.sl p none) (.slice none 0 0) := by
  rw [FR]; exact ⟨_, upd_same _ _ _, none, rfl, by simp⟩

theorem go_ok (a : Nat × List Nat × Ty × Nat) : ∀ (cs : List Nat) (hp : List Blk) (v : SV) (w : World) (I : Nat → Prop) (ρ : Nat → Option Info), Mem G H0 hp w I ρ →
    ∃ ρ', Mem G H0 (adopt1.go a hp v cs) w I ρ' ∧ Ext ρ ρ' ∧ ∀ b, Own ρ' (blkOf (adopt1.go a hp v cs)) b → Own ρ (blkOf hp) b
  | [], hp, v, w, I, ρ, h => ⟨ρ, by simpa [adopt1.go] using h, Ext.refl _, by simp [adopt1.go]⟩
  | c :: c' :: cs, hp, v, w, I, ρ, h => by
    have same : ∃ ρ', Mem G H0 hp w I ρ' ∧ Ext ρ ρ' ∧ ∀ b, Own ρ' (blkOf hp) b → Own ρ (blkOf hp) b := ⟨ρ, h, Ext.refl _, fun _ h => h⟩
    cases v with
    | ptr i c0 =>
      simp only [adopt1.go]
      split
      · split
        · exact go_ok a (c' :: cs) hp _ w I ρ h
        · exact same
      · exact same
    | _ => simp only [adopt1.go]; exact same
  | [c], hp, v, w, I, ρ, h => by
    have same : ∃ ρ', Mem G H0 hp w I ρ' ∧ Ext ρ ρ' ∧ ∀ b, Own ρ' (blkOf hp) b → Own ρ (blkOf hp) b := ⟨ρ, h, Ext.refl _, fun _ h => h⟩
    cases v with
    | ptr i c0 =>
      simp only [adopt1.go]
      split
      case h_2 => exact same
      case h_1 es ety hl =>
      split
      case h_2 => exact same
      case h_1 rest hsk =>
      split
      case h_2 => exact same
      case h_1 es' hsp =>
      obtain ⟨h1, h2, h3⟩ := h.addRow a.2.2.1 a.2.2.2
      have hi : i < hp.length := by
        rcases Nat.lt_or_ge i hp.length with hi | hi
        · exact hi
        · rw [blkOf_out hp hi] at hl; cases hl
      have hl1 : blkOf (hp ++ [.row a.2.2.1 [] a.2.2.2 true]) i = .box es ety := by rw [blkOf_push, upd_other _ _ (by omega), hl]
      have hb := h1.real.blk i; rw [hl1] at hb
      obtain ⟨x, b, arr, fz, g1, g2, g3, g4, g5⟩ := hb
      obtain ⟨k1, k2⟩ := g5.skip hsk
      obtain ⟨l, r, e1, e2, e3⟩ := ERs.cons.1 k2
      obtain ⟨vv, rfl, _, e4⟩ := (CR.ref rfl).1 e2
      rw [FR] at e4; subst e4
      have hnew : ERs w I (upd ρ hp.length (some ⟨none, 0, 0, 0, a.2.2.1.size⟩)) [.sl hp.length none] [.slice none 0 0] :=
        ERs.cons.2 ⟨[.slice none 0 0], [], rfl, (CR.ref rfl).2 ⟨_, rfl, rfl, nil_row_fr⟩, ERs.nil.2 rfl⟩
      obtain ⟨m1, m2⟩ := g5.splice hnew hsp
      have hsame : arr.toList.take (c0 + c) ++ [.slice none 0 0] ++ arr.toList.drop (c0 + c + 1) = arr.toList := by
        conv => rhs; rw [← List.take_append_drop (c0 + c) arr.toList, e1]
        rw [List.append_assoc]
        congr 2
        have := congrArg (List.drop 1) e1
        rw [List.drop_drop] at this
        simpa using this
      have hset : blkOf (setAt (hp ++ [.row a.2.2.1 [] a.2.2.2 true]) i (.box es' ety)) = upd (blkOf (hp ++ [.row a.2.2.1 [] a.2.2.2 true])) i (.box es' ety) := by
        funext j; simp only [blkOf, setAt_get, upd]
      have hpost : Post G H0 w I _ _ w I _ (blkOf (setAt (hp ++ [.row a.2.2.1 [] a.2.2.2 true]) i (.box es' ety))) :=
        h1.real.write (i := i) (by rw [hl1]; simp) g1 g2 (fun j hj => by rw [hset, upd_other _ _ hj]) rfl (fun _ _ => rfl) (by
          rw [hset, upd_same]
          refine ⟨x, b, arr, fz, g1, g2, g3, g4, ?_⟩
          simp only [List.length_singleton] at m2
          rwa [hsame] at m2) rfl rfl rfl
      refine ⟨_, ⟨fun j y hj => ?_, hpost.real⟩, h2, fun b hb => ?_⟩
      · have := h1.dom j y hj
        rw [setAt_length]; omega
      · rcases hpost.own b hb with o | o
        · exact h3 b o
        · have := (hpost.real.own b hb).1; omega
    | _ => simp only [adopt1.go]; exact same

theorem Rel.mem {fr : List SV} {hp : List Blk} {a : Act} {w : World} {I : Nat → Prop} {ρ : Nat → Option Info} (h : Rel P G H0 fr hp a w I ρ) : Mem G H0 hp w I ρ := ⟨h.dom, h.real⟩

theorem adopt1_ok {fr : List SV} {hp : List Blk} {a : Act} {w : World} {I : Nat → Prop} {ρ : Nat → Option Info} (h : Rel P G H0 fr hp a w I ρ) (d : Nat × List Nat × Ty × Nat) :
    ∃ ρ', Rel P G H0 (adopt1 fr hp d).1 (adopt1 fr hp d).2 a w I ρ' ∧ Ext ρ ρ' ∧ (∀ b, Own ρ' (blkOf (adopt1 fr hp d).2) b → Own ρ (blkOf hp) b) := by
  unfold adopt1
  split
  · split
    · rename_i hnil
      obtain ⟨h1, h2, h3⟩ := h.mem.addRow d.2.2.1 d.2.2.2
      refine ⟨_, ⟨by simpa using h.size, h.defers, fun t ht => ?_, h1.dom, h1.real⟩, h2, h3⟩
      simp only [List.length_set] at ht
      by_cases e : d.1 = t
      · subst e
        have := h.slots d.1 ht
        rw [hnil, FR] at this
        rw [this]
        simp only [List.getD_eq_getElem?_getD, List.getElem?_set_self ht, Option.getD_some]
        exact nil_row_fr
      · have := (h.slots t ht).mono (Stay.refl _ _) h2
        simpa only [List.getD_eq_getElem?_getD, List.getElem?_set_ne e] using this
    · exact ⟨ρ, h, Ext.refl _, fun _ h => h⟩
  · obtain ⟨ρ', h1, h2, h3⟩ := go_ok d d.2.1 hp (fr.getD d.1 .dead) w I ρ h.mem
    exact ⟨ρ', ⟨h.size, h.defers, fun t ht => (h.slots t ht).mono (Stay.refl _ _) h2, h1.dom, h1.real⟩, h2, h3⟩

theorem adopts_ok : ∀ (ds : List (Nat × List Nat × Ty × Nat)) {fr : List SV} {hp : List Blk} {a : Act} {w : World} {I : Nat → Prop} {ρ : Nat → Option Info} (h : Rel P G H0 fr hp a w I ρ),
    ∃ ρ', Rel P G H0 (ds.foldl (fun s a => adopt1 s.1 s.2 a) (fr, hp)).1 (ds.foldl (fun s a => adopt1 s.1 s.2 a) (fr, hp)).2 a w I ρ' ∧ Ext ρ ρ' ∧
      (∀ b, Own ρ' (blkOf (ds.foldl (fun s a => adopt1 s.1 s.2 a) (fr, hp)).2) b → Own ρ (blkOf hp) b)
  | [], _, _, _, _, _, ρ, h => ⟨ρ, h, Ext.refl _, fun _ h => h⟩
  | d :: ds, fr, hp, a, w, I, ρ, h => by
    obtain ⟨ρ1, h1, h2, h3⟩ := adopt1_ok h d
    obtain ⟨ρ2, k1, k2, k3⟩ := adopts_ok ds h1
    exact ⟨ρ2, k1, h2.trans k2, fun b hb => h3 b (k3 b hb)⟩

theorem applyHint_ok (h : Hint) (n0 : Nat) {fr : List SV} {hp : List Blk} {a : Act} {w : World} {I : Nat → Prop} {ρ : Nat → Option Info} (hr : Rel P G H0 fr hp a w I ρ) :
    ∃ ρ', Rel P G H0 (applyHint h n0 fr hp).1 (applyHint h n0 fr hp).2 a w I ρ' ∧ Keeps n0 ρ ρ' ∧ (∀ b, Own ρ' (blkOf (applyHint h n0 fr hp).2) b → Own ρ (blkOf hp) b) ∧ n0 ≤ (applyHint h n0 fr hp).2.length := by
  obtain ⟨ρ1, h1, h2, h3⟩ := adopts_ok h.adopt hr
  obtain ⟨ρ2, k1, k2, k3, k4⟩ := canon_ok (n0 := n0) (live := h.live) h1
  exact ⟨ρ2, k1, (h2.keeps n0).trans k2, fun b hb => h3 b (k3 b hb), k4⟩

theorem Rel.fr {fr : List SV} {hp : List Blk} {a : Act} {w : World} {I : Nat → Prop} {ρ : Nat → Option Info} (h : Rel P G H0 fr hp a w I ρ) (x : Operand) : FR w I ρ (ev fr x) (a.eval x) := by
  cases x with
  | tmp t =>
    simp only [ev, Act.eval]
    by_cases ht : t < fr.length
    · exact h.slots t ht
    · rw [List.getD_eq_getElem?_getD, List.getElem?_eq_none (Nat.le_of_not_lt ht)]
      simp only [Option.getD_none]; rw [FR]; trivial
  | const v => exact FR.const v
  | func f => simp only [ev, Act.eval]; rw [FR]; exact ⟨#[], rfl, by simp [FRs]⟩
  | global g => simp only [ev]; rw [FR]; trivial

def Leads (P : Program) (G : Nat) (H0 : Array Obj) (n0 : Nat) (todo : List Item) (fr : List SV) (hp : List Blk) (fr' : List SV) (hp' : List Blk) : Prop :=
  ∀ a w I ρ, Rel P G H0 fr hp a w I ρ → n0 ≤ hp.length → ∀ (b : Frame) (cs : List Frame), ∃ a' w' todo' I' ρ',
    Steps P (lone (b.at a todo) cs w) (lone { b.at a' todo' with mode := .returning } cs w') ∧ Rel P G H0 fr' hp' a' w' I' ρ' ∧ Keeps n0 ρ ρ' ∧
      Chain w I (Own ρ (blkOf hp)) w' I' (Own ρ' (blkOf hp')) ∧ n0 ≤ hp'.length

theorem Leads.head {n0 : Nat} {todo todo' : List Item} {fr fr' : List SV} {hp hp' : List Blk} (h : Leads P G H0 n0 todo' fr hp fr' hp')
    (hs : ∀ a w I ρ, Rel P G H0 fr hp a w I ρ → ∀ (b : Frame) (cs : List Frame), step P (lone (b.at a todo) cs w) = .next (lone (b.at a todo') cs w)) : Leads P G H0 n0 todo fr hp fr' hp' := by
  intro a w I ρ hrel hn b cs
  obtain ⟨a', w', t', I', ρ', h1, h2⟩ := h a w I ρ hrel hn b cs
  exact ⟨a', w', t', I', ρ', .head (hs a w I ρ hrel b cs) h1, h2⟩

theorem Leads.hint {n0 : Nat} {todo : List Item} {fr fr' : List SV} {hp hp' : List Blk} (c : Hint) (h : Leads P G H0 n0 todo (applyHint c n0 fr hp).1 (applyHint c n0 fr hp).2 fr' hp') : Leads P G H0 n0 todo fr hp fr' hp' := by
  intro a w I ρ hrel hn b cs
  obtain ⟨ρ1, k1, k2, k3, k4⟩ := applyHint_ok c n0 hrel
  obtain ⟨a', w', t', I', ρ', h1, h2, h3, h4, h5⟩ := h a w I ρ1 k1 k4 b cs
  exact ⟨a', w', t', I', ρ', h1, h2, k2.trans h3, (Chain.less k3).trans h4, h5⟩

end
end Go.AM
set_option linter.unusedSimpArgs false
set_option linter.unusedVariables false
namespace Go.AM
section
variable {R : Type} {P : Program} {G : Nat} {H0 : Array Obj} {E : Env R}

abbrev Fin_ (R : Type) := List SV → List Blk → Option R

def Runs (P : Program) (G : Nat) (H0 : Array Obj) (n0 : Nat) (run : Fin_ R → Option R) (fin : Fin_ R) (r : R) (todo : List Item) (fr : List SV) (hp : List Blk) : Prop :=
  ∃ fr' hp', fin fr' hp' = some r ∧ (∀ fin', run fin' = fin' fr' hp') ∧ Leads P G H0 n0 todo fr hp fr' hp'

theorem Runs.head {n0 : Nat} {run run' : Fin_ R → Option R} {fin : Fin_ R} {r : R} {todo todo' : List Item} {fr : List SV} {hp : List Blk} (h : Runs P G H0 n0 run' fin r todo' fr hp) (he : ∀ fin', run fin' = run' fin')
    (hs : ∀ a w I ρ, Rel P G H0 fr hp a w I ρ → ∀ (b : Frame) (cs : List Frame), step P (lone (b.at a todo) cs w) = .next (lone (b.at a todo') cs w)) : Runs P G H0 n0 run fin r todo fr hp := by
  obtain ⟨fr', hp', h1, h2, h3⟩ := h
  exact ⟨fr', hp', h1, fun fin' => (he fin').trans (h2 fin'), h3.head hs⟩

theorem xgo_ok (hE : EnvOk P G H0 E) (hm : P.follows .mixedOrders = true) {C : Cuts} {n0 : Nat} {callOf : Fin_ R → List Item → List SV → List Blk → Option R} {fin : Fin_ R} {r : R}
    (hcall : ∀ todo fr hp, callOf fin todo fr hp = some r → Runs P G H0 n0 (fun fin' => callOf fin' todo fr hp) fin r todo fr hp) :
    ∀ (d : Nat) (first : Bool) (todo : List Item) (fr : List SV) (hp : List Blk), xgo E C n0 (callOf fin) fin d first todo fr hp = some r →
      Runs P G H0 n0 (fun fin' => xgo E C n0 (callOf fin') fin' d first todo fr hp) fin r todo fr hp
  | 0, _, _, _, _, h => by simp [xgo] at h
  | d + 1, first, todo, fr, hp, h => by
    have ih := xgo_ok (C := C) hE hm hcall d
    match todo, h with
    | [], h =>
      simp only [xgo] at h
      exact ⟨fr, hp, h, fun fin' => by simp only [xgo], fun a w I ρ hrel hn b cs => ⟨a, w, [], I, ρ, .one step_end, hrel, Keeps.refl _ _, Chain.refl _ _ _, hn⟩⟩
    | .inLoop c :: k, h =>
      simp only [xgo] at h
      exact (ih _ _ _ _ h).head (fun fin' => by simp only [xgo]) fun a w I ρ _ b cs => step_inLoop
    | .inBlock id :: k, h =>
      simp only [xgo] at h
      exact (ih _ _ _ _ h).head (fun fin' => by simp only [xgo]) fun a w I ρ _ b cs => step_inBlock
    | .inScope c :: k, h =>
      simp only [xgo] at h
      exact (ih _ _ _ _ h).head (fun fin' => by simp only [xgo]) fun a w I ρ _ b cs => step_inScope
    | .code .skip :: k, h =>
      simp only [xgo] at h
      exact (ih _ _ _ _ h).head (fun fin' => by simp only [xgo]) fun a w I ρ _ b cs => step_skip
    | .code (.label l) :: k, h =>
      simp only [xgo] at h
      exact (ih _ _ _ _ h).head (fun fin' => by simp only [xgo]) fun a w I ρ _ b cs => step_label
    | .code (.seq x y) :: k, h =>
      simp only [xgo] at h
      exact (ih _ _ _ _ h).head (fun fin' => by simp only [xgo]) fun a w I ρ _ b cs => step_seq
    | .code (.block id c) :: k, h =>
      simp only [xgo] at h
      exact (ih _ _ _ _ h).head (fun fin' => by simp only [xgo]) fun a w I ρ _ b cs => step_block
    | .code (.loop c) :: k, h =>
      simp only [xgo] at h
      exact (ih _ _ _ _ h).head (fun fin' => by simp only [xgo]) fun a w I ρ _ b cs => step_loop
    | .code (.scope c) :: k, h =>
      simp only [xgo] at h
      exact (ih _ _ _ _ h).head (fun fin' => by simp only [xgo]) fun a w I ρ _ b cs => step_scope
    | .code (.cond c x y) :: k, h =>
      simp only [xgo] at h
      split at h
      case h_2 => cases h
      case h_1 t hc =>
      change Bool at t
      cases t with
      | true =>
        simp only [cond_true] at h
        refine (ih _ _ _ _ h).head (fun fin' => by simp only [xgo, hc, cond_true]) fun a w I ρ hrel b cs => ?_
        have := hrel.fr c; rw [hc] at this
        exact step_cond (t := true) this.bool
      | false =>
        simp only [cond_false] at h
        refine (ih _ _ _ _ h).head (fun fin' => by simp only [xgo, hc, cond_false]) fun a w I ρ hrel b cs => ?_
        have := hrel.fr c; rw [hc] at this
        exact step_cond (t := false) this.bool
    | .code (.exit id) :: k, h =>
      simp only [xgo] at h
      split at h
      case h_2 => cases h
      case h_1 k' hk =>
      exact (ih _ _ _ _ h).head (fun fin' => by simp only [xgo, hk]) fun a w I ρ _ b cs => step_exit hk
    | .code (.goto l) :: k, h =>
      simp only [xgo] at h
      split at h
      case h_2 => cases h
      case h_1 k' hk =>
      exact (ih _ _ _ _ h).head (fun fin' => by simp only [xgo, hk]) fun a w I ρ _ b cs => step_goto hk
    | .code .ret :: k, h =>
      simp only [xgo] at h
      exact ⟨fr, hp, h, fun fin' => by simp only [xgo], fun a w I ρ hrel hn b cs => ⟨a, w, _, I, ρ, .one step_ret, hrel, Keeps.refl _ _, Chain.refl _ _ _, hn⟩⟩
    | .code (.region q ops draw) :: k, h =>
      have plain : xregion E ops draw fr hp (fun fr hp => match C.aft q with
            | some h => callOf fin k (applyHint h n0 fr hp).1 (applyHint h n0 fr hp).2
            | none => xgo E C n0 (callOf fin) fin d false k fr hp) = some r →
          (∀ fin', xgo E C n0 (callOf fin') fin' (d + 1) first (.code (.region q ops draw) :: k) fr hp = xregion E ops draw fr hp (fun fr hp => match C.aft q with
            | some h => callOf fin' k (applyHint h n0 fr hp).1 (applyHint h n0 fr hp).2
            | none => xgo E C n0 (callOf fin') fin' d false k fr hp)) →
          Runs P G H0 n0 (fun fin' => xgo E C n0 (callOf fin') fin' (d + 1) first (.code (.region q ops draw) :: k) fr hp) fin r (.code (.region q ops draw) :: k) fr hp := by
        intro h hrun
        obtain ⟨fr1, hp1, k1, k2, k3, k4⟩ := region_ok (q := q) hE hm h
        have glue : ∀ fr' hp', Leads P G H0 n0 k fr1 hp1 fr' hp' → Leads P G H0 n0 (.code (.region q ops draw) :: k) fr hp fr' hp' := by
          intro fr' hp' hl a w I ρ hrel hn b cs
          obtain ⟨e, a1, w1, ⟨rfl, I1, ρ1, hrel1, hpost1⟩, harr⟩ := k4 a w I ρ (fun e a' w' => e = .normal ∧ ∃ I' ρ', Rel P G H0 fr1 hp1 a' w' I' ρ' ∧ Post G H0 w I ρ (blkOf hp) w' I' ρ' (blkOf hp1)) hrel
            (fun a' w' I' ρ' h1 h2 => ⟨rfl, I', ρ', h1, h2⟩) b k cs
          obtain ⟨a2, w2, t2, I2, ρ2, m1, m2, m3, m4, m5⟩ := hl a1 w1 I1 ρ1 hrel1 (Nat.le_trans hn k3) b cs
          exact ⟨a2, w2, t2, I2, ρ2, Steps.trans harr m1, m2, (hpost1.ext.keeps n0).trans m3, hpost1.chain.trans m4, m5⟩
        cases hc : C.aft q with
        | none =>
          simp only [hc] at k1
          obtain ⟨fr', hp', g1, g2, g3⟩ := ih _ _ _ _ k1
          exact ⟨fr', hp', g1, fun fin' => (hrun fin').trans ((k2 _).trans (by simp only [hc]; exact g2 fin')), glue _ _ g3⟩
        | some c =>
          simp only [hc] at k1
          obtain ⟨fr', hp', g1, g2, g3⟩ := hcall _ _ _ k1
          exact ⟨fr', hp', g1, fun fin' => (hrun fin').trans ((k2 _).trans (by simp only [hc]; exact g2 fin')), glue _ _ (g3.hint c)⟩
      have unf0 : ∀ fin', xgo E C n0 (callOf fin') fin' (d + 1) first (.code (.region q ops draw) :: k) fr hp = match (generalizing := false) first, C.bef q with
          | false, some h => callOf fin' (.code (.region q ops draw) :: k) (applyHint h n0 fr hp).1 (applyHint h n0 fr hp).2
          | _, _ => xregion2 E ops draw fr hp (fun fr hp => match C.aft q with
            | some h => callOf fin' k (applyHint h n0 fr hp).1 (applyHint h n0 fr hp).2
            | none => xgo E C n0 (callOf fin') fin' d false k fr hp) := fun fin' => rfl
      have unf : ∀ fin', xgo E C n0 (callOf fin') fin' (d + 1) first (.code (.region q ops draw) :: k) fr hp = match (generalizing := false) first, C.bef q with
          | false, some h => callOf fin' (.code (.region q ops draw) :: k) (applyHint h n0 fr hp).1 (applyHint h n0 fr hp).2
          | _, _ => xregion E ops draw fr hp (fun fr hp => match C.aft q with
            | some h => callOf fin' k (applyHint h n0 fr hp).1 (applyHint h n0 fr hp).2
            | none => xgo E C n0 (callOf fin') fin' d false k fr hp) := fun fin' => by rw [unf0]; simp only [xregion2_eq]
      rw [unf] at h
      cases first with
      | true => exact plain h fun fin' => unf fin'

      | false =>
        cases hc : C.bef q with
        | none =>
          rw [hc] at h
          exact plain h fun fin' => by rw [unf, hc]
        | some c =>
          rw [hc] at h
          obtain ⟨fr', hp', g1, g2, g3⟩ := hcall _ _ _ h
          exact ⟨fr', hp', g1, fun fin' => (unf fin').trans (by rw [hc]; exact g2 fin'), g3.hint c⟩
    | .code (.refuse m) :: k, h => simp [xgo] at h
    | .code (.rangeFunc f ps x y) :: k, h => simp [xgo] at h
    | .inRegion ops l :: k, h => simp [xgo] at h
    | .inRangeFunc l :: k, h => simp [xgo] at h
    | .endRangeFunc l :: k, h => simp [xgo] at h
    | .beginRound :: k, h => simp [xgo] at h
    | .call d' b x y :: k, h => simp [xgo] at h
    | .extern b x :: k, h => simp [xgo] at h

theorem xrun_ok (hE : EnvOk P G H0 E) (hm : P.follows .mixedOrders = true) {C : Cuts} {n0 : Nat} {fin : Fin_ R} {r : R} : ∀ (n : Nat) (todo : List Item) (fr : List SV) (hp : List Blk), xrun E C n0 fin n todo fr hp = some r →
    Runs P G H0 n0 (fun fin' => xrun E C n0 fin' n todo fr hp) fin r todo fr hp
  | 0, _, _, _, h => by simp [xrun] at h
  | n + 1, todo, fr, hp, h => by
    simp only [xrun] at h ⊢
    exact xgo_ok (callOf := fun fin' => xrun E C n0 fin' n) hE hm (fun todo fr hp h => xrun_ok hE hm n todo fr hp h) DEEP true todo fr hp h
end
end Go.AM
set_option linter.unusedSimpArgs false
set_option linter.unusedVariables false
namespace Go.AM
section
variable {R : Type} {P : Program} {G : Nat} {H0 : Array Obj} {E : Env R}

def readResult (tmps : Array Value) : ResultVar → Sem Value
  | .tmp t => pure (tmps.getD t undef)
  | .cell a t => do loadVar t (← asAddr (tmps.getD a undef))

theorem xres_inv (hE : TabOk P E) : ∀ (rs : List ResultVar) (fr : List SV) (hp : List Blk) (k : List SV → Option R) (r : R), xres E rs fr hp k = some r →
    ∃ vs, k vs = some r ∧ (∀ k' : List SV → Option R, xres E rs fr hp k' = k' vs) ∧
      ∀ a w I ρ, Rel P G H0 fr hp a w I ρ → ∃ xs : List Value, FRs w I ρ vs xs ∧ (rs.mapM (readResult a.tmps)).run P w = .ok xs w
  | [], fr, hp, k, r, h => ⟨[], h, fun _ => rfl, fun a w I ρ _ => ⟨[], by simp [FRs], by simp⟩⟩
  | .tmp t :: rs, fr, hp, k, r, h => by
    rw [xres] at h
    obtain ⟨vs, h1, h2, h3⟩ := xres_inv hE rs fr hp _ r h
    refine ⟨fr.getD t .dead :: vs, h1, fun k' => by rw [xres, h2], fun a w I ρ hrel => ?_⟩
    obtain ⟨xs, k1, k2⟩ := h3 a w I ρ hrel
    refine ⟨a.tmps.getD t undef :: xs, ?_, ?_⟩
    · rw [FRs]; exact ⟨_, _, rfl, hrel.fr (.tmp t), k1⟩
    · rw [List.mapM_cons]; simp [readResult, k2]
  | .cell a t :: rs, fr, hp, k, r, h => by
    rw [xres] at h
    split at h
    case h_2 => cases h
    case h_1 ti hti =>
    obtain ⟨v, τ, hk, hsame, hat⟩ := xload_inv G H0 h
    obtain ⟨vs, h1, h2, h3⟩ := xres_inv hE rs fr hp _ r hk
    refine ⟨v :: vs, h1, fun k' => by rw [xres]; simp only [hti]; rw [hsame _ (fun _ _ => rfl)]; exact h2 _, fun ac w I ρ hrel => ?_⟩
    obtain ⟨xs, k1, k2⟩ := h3 ac w I ρ hrel
    obtain ⟨b, o', y, e, h4, h5⟩ := hat.run (hE.tab _ _ hti) hrel.real (hrel.fr (.tmp a))
    refine ⟨y :: xs, ?_, ?_⟩
    · rw [FRs]; exact ⟨_, _, rfl, h5, k1⟩
    · have e' : ac.tmps.getD a undef = .pointer (some ⟨b, o', none⟩) := e
      rw [List.mapM_cons]; simp only [readResult, e', Sem.run_bind]
      simp [asAddr, h4, k2]

def oneOr (xs : List Value) : Value := match xs with
  | [x] => x
  | xs => .tuple xs.toArray

theorem results_run {fn : Func} {tmps : Array Value} {xs : List Value} {w : World} (h : (fn.results.toList.mapM (readResult tmps)).run P w = .ok xs w) :
    (results fn tmps).run P w = .ok (oneOr xs) w := by
  have e : fn.results.mapM (readResult tmps) = List.toArray <$> fn.results.toList.mapM (readResult tmps) := by
    rw [Array.mapM_eq_mapM_toList]
  have e2 : results fn tmps = (do let vs ← fn.results.mapM (readResult tmps); pure (if h : vs.size = 1 then vs[0] else .tuple vs)) := by
    unfold results
    congr 1
  rw [e2, e]
  simp only [Sem.run_bind, Sem.run_map, h, Result.andThen_ok, Sem.run_pure]
  match xs with
  | [] => simp [oneOr]
  | [x] => simp [oneOr]
  | x :: y :: xs => simp [oneOr]

theorem tupOf_fr {w : World} {I : Nat → Prop} {ρ : Nat → Option Info} {vs : List SV} {xs : List Value} (h : FRs w I ρ vs xs) : FR w I ρ (tupOf vs) (oneOr xs) := by
  match vs, h with
  | [], h =>
    rw [FRs] at h; subst h
    simp only [tupOf]; rw [FR]; exact ⟨_, rfl, by simp [FRs]⟩
  | [v], h =>
    rw [FRs] at h; obtain ⟨x, r, rfl, h1, h2⟩ := h
    rw [FRs] at h2; subst h2
    exact h1
  | v :: u :: vs, h =>
    have h' := h
    rw [FRs] at h; obtain ⟨x, r, rfl, h1, h2⟩ := h
    rw [FRs] at h2; obtain ⟨y, r', rfl, h3, h4⟩ := h2
    simp only [tupOf]; rw [FR]; exact ⟨_, rfl, by simpa using h'⟩

theorem pub1_fr {look : Look} {tyOf : Nat → Option Ty} {v v' : SV} {d : List Nat} (h : pub1 tyOf look 6 v = some (v', d)) :
    (∀ i, i ∈ d → look i ≠ .dead) ∧ ∀ (w : World) (I I' : Nat → Prop) (ρ : Nat → Option Info) (x : Value), Real G H0 w I ρ look → Pubd ρ I I' d → FR w I ρ v x → FR w I' ρ v' x := by
  obtain ⟨h1, h2⟩ := pub1_ok (G := G) (H0 := H0) 6 v v' d h
  refine ⟨h1, fun w I I' ρ x hr hp hx => ?_⟩
  have key : x.oneCell' = true → v.isPv = false → esize v' = 1 → FR w I' ρ v' x := fun ho hv hsz => by
    have hc : CR w I ρ v [x] := (CR.ref hv).2 ⟨x, rfl, ho, hx⟩
    obtain ⟨y, e, _, hy⟩ := (h2 w I I' ρ [x] hr hp hc).fr hsz
    simp at e; subst e; exact hy
  have same : v' = v → FR w I' ρ v' x := fun e => by subst e; exact hx.mono hp.stay (Ext.refl _)
  cases v with
  | sl i win =>
    have ho : x.oneCell' = true := by
      cases win with
      | none => rw [FR] at hx; obtain ⟨_, _, hx⟩ := hx; exact hx.one
      | some q => obtain ⟨e, n⟩ := q; rw [FR] at hx; obtain ⟨_, _, _, hx⟩ := hx; exact hx.one
    refine key ho rfl ?_
    rw [pub1, pubStep.eq_def] at h
    split at h
    · split at h
      · simp at h; obtain ⟨rfl, rfl⟩ := h; rfl
      · cases h
    · split at h
      · simp at h; obtain ⟨rfl, rfl⟩ := h; rfl
      · cases h
    · rename_i e; cases e
    · simp at h; obtain ⟨rfl, rfl⟩ := h; rfl
  | ptr i c =>
    have ho : x.oneCell' = true := by rw [FR] at hx; obtain ⟨_, _, _, _, rfl⟩ := hx; rfl
    refine key ho rfl ?_
    rw [pub1, pubStep.eq_def] at h
    split at h
    · rename_i e; cases e
    · rename_i e; cases e
    · split at h
      · split at h
        · split at h
          · split at h
            · simp at h; obtain ⟨rfl, rfl⟩ := h; rfl
            · cases h
          · cases h
        · cases h
      · cases h
    · simp at h; obtain ⟨rfl, rfl⟩ := h; rfl
  | _ =>
    refine same ?_
    simp [pub1, pubStep] at h
    first | exact h.1.symm | exact h.1

theorem pubL_frs {look : Look} {tyOf : Nat → Option Ty} : ∀ {vs vs' : List SV} {d : List Nat}, pubL (pub1 tyOf look 6) vs = some (vs', d) →
    (∀ i, i ∈ d → look i ≠ .dead) ∧ ∀ (w : World) (I I' : Nat → Prop) (ρ : Nat → Option Info) (xs : List Value), Real G H0 w I ρ look → Pubd ρ I I' d → FRs w I ρ vs xs → FRs w I' ρ vs' xs
  | [], vs', d, h => by
    simp [pubL] at h; obtain ⟨rfl, rfl⟩ := h
    exact ⟨by simp, fun w I I' ρ xs _ _ h => by rw [FRs] at h ⊢; exact h⟩
  | v :: vs, vs', d, h => by
    rw [pubL] at h
    split at h
    case h_2 => cases h
    case h_1 v1 d1 hv =>
    split at h
    case h_2 => cases h
    case h_1 vs1 d2 hvs =>
    simp at h; obtain ⟨rfl, rfl⟩ := h
    obtain ⟨h1, h2⟩ := pub1_fr (G := G) (H0 := H0) hv
    obtain ⟨h3, h4⟩ := pubL_frs hvs
    refine ⟨fun i hi => ?_, fun w I I' ρ xs hr hp h => ?_⟩
    · rcases List.mem_append.1 hi with hi | hi
      · exact h1 i hi
      · exact h3 i hi
    · rw [FRs] at h ⊢
      obtain ⟨x, r, e, g1, g2⟩ := h
      exact ⟨x, r, e, h2 w I I' ρ x hr hp.left g1, h4 w I I' ρ r hr hp.right g2⟩

theorem pubV_fr {look : Look} {tyOf : Nat → Option Ty} {v v' : SV} {d : List Nat} (h : pubV tyOf look v = some (v', d)) :
    (∀ i, i ∈ d → look i ≠ .dead) ∧ ∀ (w : World) (I I' : Nat → Prop) (ρ : Nat → Option Info) (x : Value), Real G H0 w I ρ look → Pubd ρ I I' d → FR w I ρ v x → FR w I' ρ v' x := by
  unfold pubV at h
  split at h
  · split at h
    · rename_i hp
      simp at h; obtain ⟨rfl, rfl⟩ := h
      obtain ⟨h1, h2⟩ := pubL_frs (G := G) (H0 := H0) hp
      refine ⟨h1, fun w I I' ρ x hr hpd hx => ?_⟩
      rw [FR] at hx ⊢
      obtain ⟨cs, e, hx⟩ := hx
      exact ⟨cs, e, h2 w I I' ρ _ hr hpd hx⟩
    · cases h
  · split at h
    · rename_i hp
      simp at h; obtain ⟨rfl, rfl⟩ := h
      obtain ⟨h1, h2⟩ := pubs_ok (G := G) (H0 := H0) hp
      refine ⟨h1, fun w I I' ρ x hr hpd hx => ?_⟩
      rw [FR] at hx ⊢
      obtain ⟨cs, e, hx⟩ := hx
      exact ⟨cs, e, h2 w I I' ρ _ hr hpd hx⟩
    · cases h
  · exact pub1_fr h
end
end Go.AM
set_option linter.unusedSimpArgs false
set_option linter.unusedVariables false
namespace Go.AM
section
variable {R : Type} {P : Program} {G : Nat} {H0 : Array Obj} {E : Env R}

def ConOk (P : Program) (G : Nat) (H0 : Array Obj) (f : Nat) (args : List SV) (hp : List Blk) (v : SV) (L : List Blk) : Prop :=
  hp.length ≤ L.length ∧ ∀ w I ρ (vs : Array Value), Mem G H0 hp w I ρ → FRs w I ρ args vs.toList →
    Calls P f vs w fun e w' => ∃ x I' ρ', e = .returned x ∧ FR w' I' ρ' v x ∧ Mem G H0 L w' I' ρ' ∧ Keeps hp.length ρ ρ' ∧ Chain w I (Own ρ (blkOf hp)) w' I' (Own ρ' (blkOf L))

theorem FRs.len {w : World} {I : Nat → Prop} {ρ : Nat → Option Info} : ∀ {vs : List SV} {xs : List Value}, FRs w I ρ vs xs → vs.length = xs.length
  | [], _, h => by rw [FRs] at h; subst h; rfl
  | v :: vs, _, h => by rw [FRs] at h; obtain ⟨x, r, rfl, _, h2⟩ := h; simp [FRs.len h2]

theorem start_rel {hp : List Blk} {w : World} {I : Nat → Prop} {ρ : Nat → Option Info} (hm : Mem G H0 hp w I ρ) {fn : Func} {args : List SV} {vs : Array Value} (h : FRs w I ρ args vs.toList) :
    Rel P G H0 (start fn args) hp { tmps := vs ++ Array.replicate (fn.ntmps - vs.size) undef, defers := [] } w I ρ := by
  have hl := h.len
  simp only [Array.length_toList] at hl
  refine ⟨by simp [start, hl], rfl, fun t ht => ?_, hm.dom, hm.real⟩
  by_cases hlt : t < args.length
  · have e1 : (start fn args).getD t .dead = args.getD t .dead := by
      simp only [start, List.getD_eq_getElem?_getD, List.getElem?_append_left hlt]
    have e2 : (vs ++ Array.replicate (fn.ntmps - vs.size) undef).getD t undef = vs.getD t undef := by
      simp only [Array.getD_eq_getD_getElem?, Array.getElem?_append_left (show t < vs.size by omega)]
    rw [e1, e2]
    obtain ⟨x, h1, h2⟩ := h.get (i := t) (v := args.getD t .dead) (by simp [List.getD_eq_getElem?_getD, List.getElem?_eq_getElem hlt])
    rw [Array.getElem?_toList] at h1
    rw [Array.getD_eq_getD_getElem?, h1]; exact h2
  · have e1 : (start fn args).getD t .dead = .undef := by
      simp only [start, List.getD_eq_getElem?_getD]
      rw [List.getElem?_append_right (by omega)]
      simp only [start, List.length_append, List.length_replicate] at ht
      simp [List.getElem?_replicate, show t - args.length < fn.ntmps - args.length by omega]
    have e2 : (vs ++ Array.replicate (fn.ntmps - vs.size) undef).getD t undef = undef := by
      simp only [Array.getD_eq_getD_getElem?]
      rw [Array.getElem?_append_right (by omega)]
      simp only [Array.getElem?_replicate]
      split <;> rfl
    rw [e1, e2, FR]

theorem norm1_fr {w : World} {I : Nat → Prop} {ρ : Nat → Option Info} {o : Option Ty} {v v' : SV} {x : Value} (h : norm1 o v = some v') (hx : FR w I ρ v x) : FR w I ρ v' x := by
  unfold norm1 at h
  split at h
  · simp at h; subst h; exact hx
  · rename_i T
    split at h
    · rename_i es he
      split at h
      · rename_i y hy
        split at h
        · rename_i hag
          have hp := whole_pr hy (entsOf_ers hx he)
          cases hT : T.isAgg with
          | true =>
            rw [hT] at h hag
            simp at h; subst h
            cases v with
            | agg es' =>
              rw [FR] at hx; obtain ⟨cs, rfl, _⟩ := hx
              rw [FR]; exact ⟨cs, rfl, flat_ers hp⟩
            | _ => simp [isAggV] at hag
          | false =>
            rw [hT] at h hag
            simp at h; subst h
            rcases hx.one he with ⟨es', he'⟩ | h1
            · subst he'; simp [isAggV] at hag
            · rw [cells_one h1] at hp
              rw [FR]; exact hp
        · cases h
      · cases h
    · cases h

theorem normL_frs {w : World} {I : Nat → Prop} {ρ : Nat → Option Info} : ∀ {ts : List (Option Ty)} {vs ws : List SV} {xs : List Value}, normL ts vs = some ws → FRs w I ρ vs xs → FRs w I ρ ws xs
  | [], vs, ws, xs, h, hx => by simp [normL] at h; subst h; exact hx
  | o :: ts, [], ws, xs, h, hx => by simp [normL] at h; subst h; exact hx
  | o :: ts, v :: vs, ws, xs, h, hx => by
    rw [normL] at h
    split at h
    · rename_i w1 h1
      split at h
      · rename_i ws1 h2
        simp at h; subst h
        rw [FRs] at hx ⊢
        obtain ⟨x, r, e, g1, g2⟩ := hx
        exact ⟨x, r, e, norm1_fr h1 g1, normL_frs h2 g2⟩
      · cases h
    · cases h

theorem normV_fr {w : World} {I : Nat → Prop} {ρ : Nat → Option Info} {ts : List (Option Ty)} {v v' : SV} {x : Value} (h : normV ts v = some v') (hx : FR w I ρ v x) : FR w I ρ v' x := by
  unfold normV at h
  split at h
  · split at h
    · rename_i ws hw
      simp at h; subst h
      rw [FR] at hx ⊢
      obtain ⟨cs, e, hx⟩ := hx
      exact ⟨cs, e, normL_frs hw hx⟩
    · cases h
  · split at h
    · exact norm1_fr h hx
    · simp at h; subst h; exact hx

theorem fin_ok (hE : TabOk P E) {fn : Func} {n0 : Nat} {pb : Option (List (Option Ty))} {K : SV → List Blk → Option R} {fr : List SV} {hp : List Blk} {r : R} (h : finish E fn n0 pb K fr hp = some r) :
    ∃ v L, K v L = some r ∧ (∀ K' : SV → List Blk → Option R, finish E fn n0 pb K' fr hp = K' v L) ∧ n0 ≤ L.length ∧
      ∀ a w I ρ, Rel P G H0 fr hp a w I ρ → ∃ x I' ρ', (results fn a.tmps).run P w = .ok x w ∧ FR w I' ρ' v x ∧ Mem G H0 L w I' ρ' ∧ Keeps n0 ρ ρ' ∧ Chain w I (Own ρ (blkOf hp)) w I' (Own ρ' (blkOf L)) := by
  unfold finish at h
  obtain ⟨vs, h1, h2, h3⟩ := xres_inv (G := G) (H0 := H0) hE fn.results.toList fr hp _ r h
  have canonical : ∀ (v : SV) (hp' : List Blk), finCanon n0 v hp' K = some r →
      ∃ v' L, K v' L = some r ∧ (∀ K' : SV → List Blk → Option R, finCanon n0 v hp' K' = K' v' L) ∧ n0 ≤ L.length ∧
        ∀ w I ρ x, Mem G H0 hp' w I ρ → FR w I ρ v x → ∃ ρ', FR w I ρ' v' x ∧ Mem G H0 L w I ρ' ∧ Keeps n0 ρ ρ' ∧ ∀ b, Own ρ' (blkOf L) b → Own ρ (blkOf hp') b := by
    intro v hp' hf
    have hg := (refs_grows (blkOf hp') v (List.range n0)).trans (close_grows (blkOf hp') FUEL 0 _)
    refine ⟨_, _, hf, fun K' => rfl, ?_, fun w I ρ x hm hx => ?_⟩
    · simp only [pick, List.length_map]
      simpa using hg.1.length_le
    · obtain ⟨k1, k2, k3⟩ := pick_real hm.real (hg.2 List.nodup_range)
      exact ⟨_, ren_fr (fun i i' y g1 g2 => by rw [k3 i i' g1]; exact g2) _ _ hx, ⟨fun i y hi => newRho_dom hi, k1⟩, newRho_keeps hg.1, k2⟩
  cases pb with
  | none =>
    simp only at h1
    obtain ⟨v, L, g1, g2, g3, g4⟩ := canonical _ _ h1
    refine ⟨v, L, g1, fun K' => by unfold finish; rw [h2]; exact g2 K', g3, fun a w I ρ hrel => ?_⟩
    obtain ⟨xs, k1, k2⟩ := h3 a w I ρ hrel
    obtain ⟨ρ', m1, m2, m3, m4⟩ := g4 w I ρ _ hrel.mem (tupOf_fr k1)
    exact ⟨_, I, ρ', results_run k2, m1, m2, m3, Chain.less m4⟩
  | some ts =>
    simp only at h1
    split at h1
    case h_2 => cases h1
    case h_1 v0 d hpv =>
    split at h1
    case h_2 => cases h1
    case h_1 v1 hnm =>
    obtain ⟨p1, p2⟩ := pubV_fr (G := G) (H0 := H0) hpv
    obtain ⟨v, L, g1, g2, g3, g4⟩ := canonical _ _ h1
    refine ⟨v, L, g1, fun K' => by unfold finish; rw [h2]; simp only [hpv, hnm]; exact g2 K', g3, fun a w I ρ hrel => ?_⟩
    obtain ⟨xs, k1, k2⟩ := h3 a w I ρ hrel
    obtain ⟨I', hp', hpost⟩ := publish_step hrel.real p1
    have hfr := normV_fr hnm (p2 w I I' ρ _ hrel.real hp' (tupOf_fr k1))
    have hmem : Mem G H0 (applyD hp (kills d)) w I' ρ := ⟨fun i y hi => Nat.lt_of_lt_of_le (hrel.dom i y hi) (applyD_length _ _).1, by rw [blkOf_applyD]; exact hpost.real⟩
    obtain ⟨ρ', m1, m2, m3, m4⟩ := g4 w I' ρ _ hmem hfr
    refine ⟨_, I', ρ', results_run k2, m1, m2, m3, ?_⟩
    have hc := hpost.chain
    rw [← blkOf_applyD] at hc
    exact hc.trans (Chain.less m4)

theorem xfun_ok (hE : EnvOk P G H0 E) (hm : P.follows .mixedOrders = true) {C : Cuts} {f : Nat} {fn : Func} {c : Code} (hf : P.funcs[f]? = some fn) (hb : fn.body = some c) {pb : Option (List (Option Ty))} {n : Nat} {args : List SV} {hp : List Blk}
    {K : SV → List Blk → Option R} {r : R} (h : xfun E C fn pb n args hp K = some r) :
    ∃ v L, K v L = some r ∧ (∀ K' : SV → List Blk → Option R, xfun E C fn pb n args hp K' = K' v L) ∧ ConOk P G H0 f args hp v L := by
  unfold xfun at h
  obtain ⟨fr', hp', h1, h2, h3⟩ := xrun_ok hE hm n _ _ _ h
  obtain ⟨v, L, g1, g2, g3, g4⟩ := fin_ok (G := G) (H0 := H0) hE.toTabOk h1
  refine ⟨v, L, g1, fun K' => (h2 _).trans (g2 K'), g3, fun w I ρ vs hmem hargs cs => ?_⟩
  let b : Frame := { (default : Frame) with fn := f, kind := .normal }
  have henter : Frame.enter P f vs .normal = b.at { tmps := vs ++ Array.replicate (fn.ntmps - vs.size) undef, defers := [] } [.code (bodyOf fn)] := by
    simp [Frame.enter, Frame.at, hf, hb, b, bodyOf]
  obtain ⟨a', w', todo', I1, ρ1, k1, k2, k3, k4, k5⟩ := h3 _ w I ρ (start_rel (P := P) (fn := fn) hmem hargs) (Nat.le_refl _) b cs
  rw [← henter] at k1
  obtain ⟨x, I2, ρ2, m1, m2, m3, m4, m5⟩ := g4 a' w' I1 ρ1 k2
  exact ⟨.returned x, w', _, ⟨x, I2, ρ2, rfl, m2, m3, k3.trans m4, k4.trans m5⟩, k1, rfl, rfl, k2.defers, rfl, fn, hf, m1⟩
end
end Go.AM
set_option linter.unusedSimpArgs false
set_option linter.unusedVariables false
namespace Go.AM
section
variable {look look' : Look}

theorem seeL_loc {i : Nat} (h : look' i = look i) (s : List Nat) : (match look' i with | .dead => s | _ => see s i) = (match look i with | .dead => s | _ => see s i) := by rw [h]

mutual
theorem refs_loc : ∀ (v : SV) (s : List Nat), (∀ i, i ∈ raw v → look' i = look i) → refs look' v s = refs look v s
  | .ptr i _, s, h => seeL_loc (h i (by simp [raw])) s
  | .rptr i _ _, s, h => seeL_loc (h i (by simp [raw])) s
  | .aptr i _ _ _ _ _, s, h => seeL_loc (h i (by simp [raw])) s
  | .sl i _, s, h => seeL_loc (h i (by simp [raw])) s
  | .asl i _ _ _, s, h => seeL_loc (h i (by simp [raw])) s
  | .mapr i, s, h => seeL_loc (h i (by simp [raw])) s
  | .fn _ cs, s, h => by simp only [refs]; exact refsL_loc cs s (by simpa [raw] using h)
  | .agg cs, s, h => by simp only [refs]; exact refsL_loc cs s (by simpa [raw] using h)
  | .tup cs, s, h => by simp only [refs]; exact refsL_loc cs s (by simpa [raw] using h)
  | .iface _ v, s, h => by simp only [refs]; exact refs_loc v s (by simpa [raw] using h)
  | .pv _ _, s, _ => by simp only [refs]
  | .emp, s, _ => by simp only [refs]
  | .nils, s, _ => by simp only [refs]
  | .nilp, s, _ => by simp only [refs]
  | .nilm, s, _ => by simp only [refs]
  | .nilf, s, _ => by simp only [refs]
  | .nili, s, _ => by simp only [refs]
  | .undef, s, _ => by simp only [refs]
  | .dead, s, _ => by simp only [refs]
theorem refsL_loc : ∀ (vs : List SV) (s : List Nat), (∀ i, i ∈ raw.rawL vs → look' i = look i) → refs.refsL look' vs s = refs.refsL look vs s
  | [], s, _ => by simp only [refs.refsL]
  | v :: vs, s, h => by
    simp only [refs.refsL]
    rw [refs_loc v s fun i hi => h i (by simp [raw.rawL, hi])]
    exact refsL_loc vs _ fun i hi => h i (by simp [raw.rawL, hi])
end

theorem blkRefs_loc (B : Blk) (s : List Nat) (h : ∀ i, i ∈ rawB B → look' i = look i) : blkRefs look' B s = blkRefs look B s := by
  cases B with
  | box es t => exact refsL_loc es s h
  | _ => rfl

theorem close_loc {t : List Nat} (h1 : ∀ i, i ∈ t → look' i = look i) (h2 : ∀ i, i ∈ t → ∀ q, q ∈ rawB (look i) → look' q = look q) : ∀ (n j : Nat) (s : List Nat), close look n j s = t → close look' n j s = t
  | 0, _, s, h => h
  | n + 1, j, s, h => by
    have hg : Grows s t := by rw [← h]; exact close_grows look (n + 1) j s
    rw [close] at h ⊢
    split at h
    · rename_i i hi
      have hit : i ∈ t := hg.1.subset (List.mem_of_getElem? hi)
      rw [h1 i hit, blkRefs_loc (look i) s (h2 i hit)]
      exact close_loc h1 h2 n (j + 1) _ h
    · exact h

mutual
theorem ren_loc {σ σ' : Nat → Option Nat} : ∀ (v : SV), (∀ i, i ∈ raw v → σ' i = σ i) → ren σ' v = ren σ v
  | .ptr i _, h => by simp only [ren, h i (by simp [raw])]
  | .rptr i _ _, h => by simp only [ren, h i (by simp [raw])]
  | .aptr i _ _ _ _ _, h => by simp only [ren, h i (by simp [raw])]
  | .sl i _, h => by simp only [ren, h i (by simp [raw])]
  | .asl i _ _ _, h => by simp only [ren, h i (by simp [raw])]
  | .mapr i, h => by simp only [ren, h i (by simp [raw])]
  | .fn _ cs, h => by simp only [ren]; rw [renL_loc cs (by simpa [raw] using h)]
  | .agg cs, h => by simp only [ren]; rw [renL_loc cs (by simpa [raw] using h)]
  | .tup cs, h => by simp only [ren]; rw [renL_loc cs (by simpa [raw] using h)]
  | .iface _ v, h => by simp only [ren]; rw [ren_loc v (by simpa [raw] using h)]
  | .pv _ _, _ => by simp only [ren]
  | .emp, _ => by simp only [ren]
  | .nils, _ => by simp only [ren]
  | .nilp, _ => by simp only [ren]
  | .nilm, _ => by simp only [ren]
  | .nilf, _ => by simp only [ren]
  | .nili, _ => by simp only [ren]
  | .undef, _ => by simp only [ren]
  | .dead, _ => by simp only [ren]
theorem renL_loc {σ σ' : Nat → Option Nat} : ∀ (vs : List SV), (∀ i, i ∈ raw.rawL vs → σ' i = σ i) → ren.renL σ' vs = ren.renL σ vs
  | [], _ => by simp only [ren.renL]
  | v :: vs, h => by
    simp only [ren.renL]
    rw [ren_loc v fun i hi => h i (by simp [raw.rawL, hi]), renL_loc vs fun i hi => h i (by simp [raw.rawL, hi])]
end

theorem liveIdx_loc {s : List Nat} {i : Nat} (h : look' i = look i) : liveIdx look' s i = liveIdx look s i := by
  unfold liveIdx; rw [h]

theorem pick_loc {s : List Nat} (h1 : ∀ i, i ∈ s → look' i = look i) (h2 : ∀ i, i ∈ s → ∀ q, q ∈ rawB (look i) → look' q = look q) : pick look' s = pick look s := by
  unfold pick
  refine List.map_congr_left fun i hi => ?_
  rw [h1 i hi]
  cases hl : look i with
  | box es t =>
    simp only [blkRen]
    rw [renL_loc es fun q hq => liveIdx_loc (h2 i hi q (by rw [hl]; exact hq))]
  | _ => rfl

theorem pubV_loc {tyOf : Nat → Option Ty} {v v' : SV} {d : List Nat} (h : pubV tyOf look v = some (v', d)) (hd : ∀ q, q ∈ d → look' q = look q) : pubV tyOf look' v = some (v', d) := by
  unfold pubV at h ⊢
  split at h
  · split at h
    · rename_i hp
      simp at h; obtain ⟨rfl, rfl⟩ := h
      simp only [pubs_loc hp hd]
    · cases h
  · split at h
    · rename_i hp
      simp at h; obtain ⟨rfl, rfl⟩ := h
      simp only [pubs_loc hp hd]
    · cases h
  · exact pub1_loc 6 _ _ _ h hd

theorem bor1_loc {tyOf : Nat → Option Ty} : ∀ (ms : List Mode) (vs vs' : List SV) (b d : List Nat), bor1 tyOf look ms vs = some (vs', b, d) → (∀ q, q ∈ b → look' q = look q) → (∀ q, q ∈ d → look' q = look q) →
    bor1 tyOf look' ms vs = some (vs', b, d)
  | [], vs, vs', b, d, h, _, _ => by simpa [bor1] using h
  | m :: ms, [], vs', b, d, h, _, _ => by simpa [bor1] using h
  | m :: ms, v :: vs, vs', b, d, h, hb, hd => by
    rw [bor1] at h ⊢
    split at h
    case h_2 => cases h
    case h_1 ws b1 d1 hr =>
    cases m with
    | own =>
      simp at h; obtain ⟨rfl, rfl, rfl⟩ := h
      rw [bor1_loc ms vs ws b1 d1 hr hb hd]
    | bor =>
      simp only at h
      split at h
      case h_2 => cases h
      case h_1 w b' hp =>
      simp at h; obtain ⟨rfl, rfl, rfl⟩ := h
      rw [bor1_loc ms vs ws b1 d1 hr (fun q hq => hb q (by simp [hq])) hd]
      simp only [pubV_loc hp fun q hq => hb q (by simp [hq])]
    | pub =>
      simp only at h
      split at h
      case h_2 => cases h
      case h_1 w d' hp =>
      simp at h; obtain ⟨rfl, rfl, rfl⟩ := h
      rw [bor1_loc ms vs ws b1 d1 hr hb (fun q hq => hd q (by simp [hq]))]
      simp only [pubV_loc hp fun q hq => hd q (by simp [hq])]
end
end Go.AM
set_option linter.unusedSimpArgs false
set_option linter.unusedVariables false
namespace Go.AM
section
variable {P : Program} {G : Nat} {H0 : Array Obj} {look : Look}

theorem see_live {s : List Nat} {i q : Nat} (h : q ∈ see s i) : q ∈ s ∨ q = i := by
  unfold see at h
  split at h
  · exact .inl h
  · simpa using h

theorem seeL_live {s : List Nat} {i q : Nat} (h : q ∈ (match look i with | .dead => s | _ => see s i)) : q ∈ s ∨ look q ≠ .dead := by
  split at h
  · exact .inl h
  · rename_i hl
    rcases see_live h with h | rfl
    · exact .inl h
    · exact .inr fun e => hl e

mutual
theorem refs_live : ∀ (v : SV) (s : List Nat) (q : Nat), q ∈ refs look v s → q ∈ s ∨ look q ≠ .dead
  | .ptr i _, s, q, h => seeL_live h
  | .rptr i _ _, s, q, h => seeL_live h
  | .aptr i _ _ _ _ _, s, q, h => seeL_live h
  | .sl i _, s, q, h => seeL_live h
  | .asl i _ _ _, s, q, h => seeL_live h
  | .mapr i, s, q, h => seeL_live h
  | .fn _ cs, s, q, h => refsL_live cs s q (by simpa only [refs] using h)
  | .agg cs, s, q, h => refsL_live cs s q (by simpa only [refs] using h)
  | .tup cs, s, q, h => refsL_live cs s q (by simpa only [refs] using h)
  | .iface _ v, s, q, h => refs_live v s q (by simpa only [refs] using h)
  | .pv _ _, s, q, h => .inl (by simpa only [refs] using h)
  | .emp, s, q, h => .inl (by simpa only [refs] using h)
  | .nils, s, q, h => .inl (by simpa only [refs] using h)
  | .nilp, s, q, h => .inl (by simpa only [refs] using h)
  | .nilm, s, q, h => .inl (by simpa only [refs] using h)
  | .nilf, s, q, h => .inl (by simpa only [refs] using h)
  | .nili, s, q, h => .inl (by simpa only [refs] using h)
  | .undef, s, q, h => .inl (by simpa only [refs] using h)
  | .dead, s, q, h => .inl (by simpa only [refs] using h)
theorem refsL_live : ∀ (vs : List SV) (s : List Nat) (q : Nat), q ∈ refs.refsL look vs s → q ∈ s ∨ look q ≠ .dead
  | [], s, q, h => .inl (by simpa only [refs.refsL] using h)
  | v :: vs, s, q, h => by
    simp only [refs.refsL] at h
    rcases refsL_live vs _ q h with h | h
    · exact refs_live v s q h
    · exact .inr h
end

theorem close_live : ∀ (n j : Nat) (s : List Nat) (q : Nat), q ∈ close look n j s → q ∈ s ∨ look q ≠ .dead
  | 0, _, s, q, h => .inl h
  | n + 1, j, s, q, h => by
    rw [close] at h
    split at h
    · rename_i i hi
      rcases close_live n (j + 1) _ q h with h | h
      · cases hl : look i with
        | box es t => rw [hl] at h; exact refsL_live es s q h
        | _ => rw [hl] at h; exact .inl h
      · exact .inr h
    · exact .inl h

theorem idxOf_of_get : ∀ {s : List Nat} {i j : Nat}, s.Nodup → s[j]? = some i → idxOf s i = some j
  | [], _, _, _, h => by simp at h
  | a :: s, i, 0, hn, h => by simp at h; subst h; simp [idxOf]
  | a :: s, i, j + 1, hn, h => by
    have hi : i ∈ s := List.mem_of_getElem? (by simpa using h)
    have hne : a ≠ i := fun e => by subst e; exact (List.nodup_cons.1 hn).1 hi
    rw [idxOf, if_neg hne, idxOf_of_get (List.nodup_cons.1 hn).2 (by simpa using h)]; rfl

theorem idxOf_none {s : List Nat} {i : Nat} (h : i ∉ s) : idxOf s i = none := by
  cases hi : idxOf s i with
  | none => rfl
  | some j => exact absurd (List.mem_of_getElem? (idxOf_get s i j hi)) h

theorem applyL_news : ∀ (l : List Blk) (p : Nat) (look : Look) (i : Nat), applyL look (news p l) i = if p ≤ i then (match l[i - p]? with | some B => B | none => look i) else look i
  | [], p, look, i => by simp [news, applyL]
  | B :: l, p, look, i => by
    have e : applyL look (news p (B :: l)) = applyL (upd look p B) (news (p + 1) l) := rfl
    rw [e, applyL_news l (p + 1)]
    by_cases h : p ≤ i
    · by_cases h' : i = p
      · subst h'; simp [upd]; intro h; omega
      · have h1 : p + 1 ≤ i := by omega
        have h2 : i - p = (i - (p + 1)) + 1 := by omega
        rw [if_pos h, if_pos h1, h2, List.getElem?_cons_succ, upd_other _ _ h']
    · rw [if_neg h, if_neg (by omega), upd_other _ _ (by omega)]

theorem news_mem : ∀ (l : List Blk) (p t : Nat), t < l.length → ∃ B, (p + t, B) ∈ news p l
  | [], _, _, h => by simp at h
  | B :: l, p, 0, _ => ⟨B, by simp [news]⟩
  | B :: l, p, t + 1, h => by
    obtain ⟨B', h'⟩ := news_mem l (p + 1) t (by simpa using h)
    exact ⟨B', by rw [news]; rw [show p + (t + 1) = p + 1 + t by omega]; exact List.mem_cons_of_mem _ h'⟩

theorem olds_keys : ∀ (s : List Nat) (M : List Blk) (i : Nat), i ∉ s → i ∉ (olds s M).map (·.1)
  | [], _, _, _ => by simp [olds]
  | _ :: _, [], _, _ => by simp [olds]
  | a :: s, m :: M, i, h => by
    simp only [List.mem_cons, not_or] at h
    simp only [olds, List.map_cons, List.mem_cons, not_or]
    exact ⟨h.1, olds_keys s M i h.2⟩

theorem applyL_olds : ∀ (s : List Nat) (M : List Blk) (look : Look) (j i : Nat), s.Nodup → s[j]? = some i → ∀ B, M[j]? = some B → applyL look (olds s M) i = B
  | [], _, _, _, _, _, h, _, _ => by simp at h
  | _ :: _, [], _, _, _, _, _, _, h => by simp at h
  | a :: s, m :: M, look, 0, i, hn, h, B, hB => by
    simp at h hB; subst h; subst hB
    have e : applyL look (olds (a :: s) (m :: M)) = applyL (upd look a m) (olds s M) := rfl
    rw [e, applyL_mem _ _ _ (olds_keys s M a (List.nodup_cons.1 hn).1), upd_same]
  | a :: s, m :: M, look, j + 1, i, hn, h, B, hB => by
    have e : applyL look (olds (a :: s) (m :: M)) = applyL (upd look a m) (olds s M) := rfl
    rw [e]
    exact applyL_olds s M _ j i (List.nodup_cons.1 hn).2 (by simpa using h) B (by simpa using hB)

theorem olds_mem : ∀ (s : List Nat) (M : List Blk) (i : Nat), s.length ≤ M.length → i ∈ s → ∃ B, (i, B) ∈ olds s M
  | [], _, _, _, h => by simp at h
  | _ :: _, [], _, h, _ => by simp at h
  | a :: s, m :: M, i, h, hi => by
    rcases List.mem_cons.1 hi with rfl | hi
    · exact ⟨m, by simp [olds]⟩
    · obtain ⟨B, hB⟩ := olds_mem s M i (by simpa using h) hi
      exact ⟨B, by simp [olds, hB]⟩

section
variable {w : World} {I I' : Nat → Prop} {ρ : Nat → Option Info}

mutual
theorem flat_fr : ∀ (v : SV) (x : Value), flatSV v = true → FR w I ρ v x → FR w I' ρ v x
  | .pv t y, x, hf, h => by rw [FR] at *; exact h.flat (by simpa [flatSV] using hf)
  | .fn f cs, x, hf, h => by
    rw [FR] at *
    obtain ⟨vs, e, h⟩ := h
    exact ⟨vs, e, flat_frs cs _ (by simpa [flatSV] using hf) h⟩
  | .agg cs, x, hf, h => by
    rw [FR] at *
    obtain ⟨vs, e, h⟩ := h
    exact ⟨vs, e, flat_ers' cs _ (by simpa [flatSV] using hf) h⟩
  | .tup cs, x, hf, h => by
    rw [FR] at *
    obtain ⟨vs, e, h⟩ := h
    exact ⟨vs, e, flat_frs cs _ (by simpa [flatSV] using hf) h⟩
  | .iface t v, x, hf, h => by
    rw [FR] at *
    obtain ⟨y, e, h⟩ := h
    exact ⟨y, e, flat_fr v y (by simpa [flatSV] using hf) h⟩
  | .ptr i c, x, hf, h => by rw [FR] at *; exact h
  | .rptr i e j, x, hf, h => by rw [FR] at *; exact h
  | .aptr i c n k e j, x, hf, h => by rw [FR] at *; exact h
  | .sl i none, x, hf, h => by rw [FR] at *; exact h
  | .sl i (some (a, b)), x, hf, h => by rw [FR] at *; exact h
  | .asl i c n k, x, hf, h => by rw [FR] at *; exact h
  | .mapr i, x, hf, h => by rw [FR] at *; exact h
  | .emp, x, hf, h => by rw [FR] at *; exact h
  | .nils, x, hf, h => by rw [FR] at *; exact h
  | .nilp, x, hf, h => by rw [FR] at *; exact h
  | .nilm, x, hf, h => by rw [FR] at *; exact h
  | .nilf, x, hf, h => by rw [FR] at *; exact h
  | .nili, x, hf, h => by rw [FR] at *; exact h
  | .undef, x, hf, h => by rw [FR] at *; exact h
  | .dead, x, hf, h => by rw [FR]; trivial
theorem flat_frs : ∀ (vs : List SV) (xs : List Value), flatSV.flatL vs = true → FRs w I ρ vs xs → FRs w I' ρ vs xs
  | [], xs, _, h => by rw [FRs] at *; exact h
  | v :: vs, xs, hf, h => by
    simp only [flatSV.flatL, Bool.and_eq_true] at hf
    rw [FRs] at *
    obtain ⟨x, r, e, h1, h2⟩ := h
    exact ⟨x, r, e, flat_fr v x hf.1 h1, flat_frs vs r hf.2 h2⟩
theorem flat_ers' : ∀ (vs : List SV) (xs : List Value), flatSV.flatL vs = true → ERs w I ρ vs xs → ERs w I' ρ vs xs
  | [], xs, _, h => by rw [ERs] at *; exact h
  | v :: vs, xs, hf, h => by
    simp only [flatSV.flatL, Bool.and_eq_true] at hf
    rw [ERs] at *
    obtain ⟨l, r, e, h1, h2⟩ := h
    have ht := flat_fr v
    refine ⟨l, r, e, ⟨fun t x hx => ?_, fun hp => ?_⟩, flat_ers' vs r hf.2 h2⟩
    · subst hx
      exact (h1.1 t x rfl).flat (by simpa [flatSV] using hf.1)
    · obtain ⟨x, e1, e2, e3⟩ := h1.2 hp
      exact ⟨x, e1, e2, ht x hf.1 e3⟩
end

theorem flat_br {i : Nat} {B : Blk} (hf : flatBlk B = true) (h : BR w I ρ i B) : BR w I' ρ i B := by
  cases B with
  | dead => trivial
  | box es ety =>
    obtain ⟨x, b, arr, fz, h1, h2, h3, h4, h5⟩ := h
    exact ⟨x, b, arr, fz, h1, h2, h3, h4, flat_ers' es _ hf h5⟩
  | row t xs ety gr =>
    obtain ⟨x, h1, h2, h3, h4, h5, h6, h7⟩ := h
    refine ⟨x, h1, h2, h3, h4, h5, h6, fun b hb' => ?_⟩
    obtain ⟨arr, fz, pre, css, rest, a1, a2, a3, a4, a5⟩ := h7 b hb'
    exact ⟨arr, fz, pre, css, rest, a1, a2, a3, a4.mono fun _ _ h => h.flat hf, a5⟩
  | map kt vt es =>
    simp only [flatBlk, Bool.and_eq_true] at hf
    obtain ⟨x, b, ents, clock, h1, h2, h3, h4⟩ := h
    exact ⟨x, b, ents, clock, h1, h2, h3, h4.mono fun _ _ h => ⟨h.1.flat hf.1, h.2.1.flat hf.2, h.2.2⟩⟩
end

theorem bor1_fr {tyOf : Nat → Option Ty} : ∀ (ms : List Mode) (vs vs' : List SV) (b d : List Nat), bor1 tyOf look ms vs = some (vs', b, d) →
    (∀ i, i ∈ b → look i ≠ .dead) ∧ (∀ i, i ∈ d → look i ≠ .dead) ∧
    ∀ (w : World) (I I' : Nat → Prop) (ρ : Nat → Option Info) (xs : List Value), Real G H0 w I ρ look → Pubd ρ I I' b → Pubd ρ I I' d → FRs w I ρ vs xs → FRs w I' ρ vs' xs
  | [], vs, vs', b, d, h => by
    simp [bor1] at h; obtain ⟨rfl, rfl, rfl⟩ := h
    exact ⟨by simp, by simp, fun w I I' ρ xs _ hp _ h => h.mono hp.stay (Ext.refl _)⟩
  | m :: ms, [], vs', b, d, h => by
    simp [bor1] at h; obtain ⟨rfl, rfl, rfl⟩ := h
    exact ⟨by simp, by simp, fun w I I' ρ xs _ hp _ h => h.mono hp.stay (Ext.refl _)⟩
  | m :: ms, v :: vs, vs', b, d, h => by
    rw [bor1] at h
    split at h
    case h_2 => cases h
    case h_1 ws b1 d1 hr =>
    obtain ⟨g1, g2, g3⟩ := bor1_fr ms vs ws b1 d1 hr
    cases m with
    | own =>
      simp at h; obtain ⟨rfl, rfl, rfl⟩ := h
      refine ⟨g1, g2, fun w I I' ρ xs hre hp hp' h => ?_⟩
      rw [FRs] at h ⊢
      obtain ⟨x, r, e, h1, h2⟩ := h
      exact ⟨x, r, e, h1.mono hp.stay (Ext.refl _), g3 w I I' ρ r hre hp hp' h2⟩
    | bor =>
      simp only at h
      split at h
      case h_2 => cases h
      case h_1 u b' hpv =>
      simp at h; obtain ⟨rfl, rfl, rfl⟩ := h
      obtain ⟨p1, p2⟩ := pubV_fr (G := G) (H0 := H0) hpv
      refine ⟨fun i hi => ?_, g2, fun w I I' ρ xs hre hp hp' h => ?_⟩
      · rcases List.mem_append.1 hi with hi | hi
        · exact p1 i hi
        · exact g1 i hi
      · rw [FRs] at h ⊢
        obtain ⟨x, r, e, h1, h2⟩ := h
        exact ⟨x, r, e, p2 w I I' ρ x hre hp.left h1, g3 w I I' ρ r hre hp.right hp' h2⟩
    | pub =>
      simp only at h
      split at h
      case h_2 => cases h
      case h_1 u d' hpv =>
      simp at h; obtain ⟨rfl, rfl, rfl⟩ := h
      obtain ⟨p1, p2⟩ := pubV_fr (G := G) (H0 := H0) hpv
      refine ⟨g1, fun i hi => ?_, fun w I I' ρ xs hre hp hp' h => ?_⟩
      · rcases List.mem_append.1 hi with hi | hi
        · exact p1 i hi
        · exact g2 i hi
      · rw [FRs] at h ⊢
        obtain ⟨x, r, e, h1, h2⟩ := h
        exact ⟨x, r, e, p2 w I I' ρ x hre hp'.left h1, g3 w I I' ρ r hre hp hp'.right h2⟩
end
end Go.AM
set_option linter.unusedSimpArgs false
set_option linter.unusedVariables false
namespace Go.AM
section
variable {R : Type} {P : Program} {G : Nat} {H0 : Array Obj} {look : Look}

theorem blkRen_br {w : World} {I : Nat → Prop} {ρ ρ' : Nat → Option Info} {σ : Nat → Option Nat} (hσ : ∀ i i' y, σ i = some i' → ρ i = some y → ρ' i' = some y) {i i' : Nat} (hi : ∀ y, ρ i = some y → ρ' i' = some y) {B : Blk}
    (h : BR w I ρ i B) : BR w I ρ' i' (blkRen σ B) := by
  cases B with
  | dead => trivial
  | box es ety =>
    obtain ⟨x, b, arr, fz, h1, h2, h3, h4, h5⟩ := h
    exact ⟨x, b, arr, fz, hi _ h1, h2, h3, h4, renL_ers hσ es _ h5⟩
  | row t xs ety gr =>
    obtain ⟨x, h1, h2⟩ := h
    exact ⟨x, hi _ h1, h2⟩
  | map kt vt es =>
    obtain ⟨x, b, ents, clock, h1, h2⟩ := h
    exact ⟨x, b, ents, clock, hi _ h1, h2⟩

theorem lift_look {s d : List Nat} (hn : s.Nodup) {L : List Blk} (hl : s.length ≤ L.length) {p : Nat} {Rn : Blk → Blk} (hd : ∀ i, i ∈ s → i ∉ d) (hp : ∀ i, p ≤ i → i < p + (L.length - s.length) → i ∉ s) (hR : Rn .dead = .dead) (i : Nat) :
    applyL look (kills d ++ olds s (L.map Rn) ++ news p ((L.drop s.length).map Rn)) i =
      match idxOf s i with
      | some j => Rn (blkOf L j)
      | none => if p ≤ i ∧ i < p + (L.length - s.length) then Rn (blkOf L (s.length + (i - p))) else if i ∈ d then .dead else look i := by
  rw [applyL_append, applyL_append, applyL_news]
  have old : applyL (applyL look (kills d)) (olds s (L.map Rn)) i = match idxOf s i with
      | some j => Rn (blkOf L j)
      | none => if i ∈ d then .dead else look i := by
    cases hi : idxOf s i with
    | some j =>
      have hj := idxOf_get s i j hi
      have hlt : j < L.length := Nat.lt_of_lt_of_le (List.getElem?_eq_some_iff.1 hj).1 hl
      refine applyL_olds s _ _ j i hn hj _ ?_
      rw [List.getElem?_map, List.getElem?_eq_getElem hlt]
      simp [blkOf, List.getD_eq_getElem?_getD, List.getElem?_eq_getElem hlt]
    | none =>
      have hns : i ∉ s := fun h => by
        obtain ⟨j, hj⟩ := List.getElem?_of_mem h
        rw [idxOf_of_get hn hj] at hi; cases hi
      rw [applyL_mem _ _ _ (olds_keys s _ i hns), applyL_kills]
  by_cases hpi : p ≤ i
  · rw [if_pos hpi]
    by_cases hlt : i < p + (L.length - s.length)
    · have hns := hp i hpi hlt
      rw [idxOf_none hns]
      simp only [hpi, hlt, and_self, if_true]
      have hlt' : s.length + (i - p) < L.length := by omega
      rw [List.getElem?_map, List.getElem?_drop, List.getElem?_eq_getElem hlt']
      simp [blkOf, List.getD_eq_getElem?_getD, List.getElem?_eq_getElem hlt']
    · have hout : ((L.drop s.length).map Rn)[i - p]? = none := by
        rw [List.getElem?_eq_none]; simp; omega
      rw [hout]
      simp only
      rw [old]
      cases idxOf s i <;> simp [hlt]
  · rw [if_neg hpi, old]
    cases idxOf s i <;> simp [hpi]

theorem lift_ok {f : Nat} {tyOf : Nat → Option Ty} {ms : List Mode} {F : Con R} (hF : ∀ args hp K r, F args hp K = some r → ∃ v L, K v L = some r ∧ (∀ K', F args hp K' = K' v L) ∧ ConOk P G H0 f args hp v L)
    {args : List SV} {p : Nat} {k : KOp R} {r : R} (h : lift tyOf ms F args look p k = some r) :
    ∃ v δ τ, k v δ τ = some r ∧ (∀ look' : Look, (∀ i, i ∈ τ → look' i = look i) → ∀ k' : KOp R, lift tyOf ms F args look' p k' = k' v δ τ) ∧ CallOk P G H0 f args look p v δ := by
  unfold lift at h
  split at h
  case h_2 => cases h
  case h_1 args' b d hb =>
  simp only at h
  generalize hs : close look FUEL 0 (refs.refsL look args' []) = s at h
  split at h
  case isTrue => cases h
  case isFalse hdis =>
  obtain ⟨v, L, h1, h2, h3, h4⟩ := hF _ _ _ _ h
  split at h1
  case isFalse => cases h1
  case isTrue hflat =>
  have hlen : (pick look s).length = s.length := by simp [pick]
  rw [hlen] at h3 h4
  have hnd : s.Nodup := by
    rw [← hs]
    exact ((refsL_grows look args' []).trans (close_grows look FUEL 0 _)).2 List.nodup_nil
  have hlive : ∀ i, i ∈ s → look i ≠ .dead := by
    intro i hi
    rw [← hs] at hi
    rcases close_live _ _ _ _ hi with hi | hi
    · rcases refsL_live _ _ _ hi with hi | hi
      · cases hi
      · exact hi
    · exact hi
  have hdis' : ∀ i, i ∈ s → i ∉ b ∧ i ∉ d := by
    intro i hi
    have hx : ¬ (s.any (fun i => b.contains i || d.contains i)) = true := hdis
    rw [List.any_eq_true] at hx
    constructor
    · intro h'; exact hx ⟨i, hi, by simp [h']⟩
    · intro h'; exact hx ⟨i, hi, by simp [h']⟩
  refine ⟨_, _, _, h1, fun look' hlk k' => ?_, fun w I ρ vs hre hvs hfr => ?_⟩
  · have a1 : ∀ q, q ∈ b → look' q = look q := fun q hq => hlk q (by simp [hq])
    have a2 : ∀ q, q ∈ d → look' q = look q := fun q hq => hlk q (by simp [hq])
    have a3 : ∀ q, q ∈ s → look' q = look q := fun q hq => hlk q (by simp [hq])
    have a4 : ∀ q, q ∈ raw.rawL args' → look' q = look q := fun q hq => hlk q (by simp [hq])
    have a5 : ∀ i, i ∈ s → ∀ q, q ∈ rawB (look i) → look' q = look q := fun i hi q hq => hlk q (by
      simp only [List.mem_append, List.mem_flatMap]
      exact .inr (.inr (.inr ⟨i, hi, hq⟩)))
    have e1 := bor1_loc (look' := look') ms args args' b d hb a1 a2
    have e2 : close look' FUEL 0 (refs.refsL look' args' []) = s := by
      rw [refsL_loc args' [] a4]; exact close_loc a3 a5 FUEL 0 _ hs
    have e3 : ren.renL (liveIdx look' s) args' = ren.renL (liveIdx look s) args' := renL_loc args' fun i hi => liveIdx_loc (a4 i hi)
    have e4 : pick look' s = pick look s := pick_loc a3 a5
    have e5 : (s.flatMap fun i => rawB (look' i)) = s.flatMap fun i => rawB (look i) := by
      rw [List.flatMap_def, List.flatMap_def]
      congr 1
      exact List.map_congr_left fun i hi => by rw [a3 i hi]
    have hdis2 : (s.any fun i => b.contains i || d.contains i) = false := by simpa using hdis
    unfold lift
    simp only [e1, e2, e3, e4, e5, hdis2, Bool.false_eq_true, if_false]
    rw [h2]
    simp only [hflat, if_true]
  · obtain ⟨p1, p2, p3⟩ := bor1_fr (G := G) (H0 := H0) ms args args' b d hb
    obtain ⟨Ic, hpub, hpost0⟩ := publish_step (d := b ++ d) hre fun i hi => by
      rcases List.mem_append.1 hi with hi | hi
      · exact p1 i hi
      · exact p2 i hi
    have hlkK : ∀ i, i ∈ s → applyL look (kills (b ++ d)) i = look i := fun i hi => by
      rw [applyL_kills, if_neg (by simp [hdis' i hi])]
    have hidx : liveIdx (applyL look (kills (b ++ d))) s = liveIdx look s := by
      funext q
      by_cases hq : q ∈ b ++ d
      · have hqs : q ∉ s := fun h => by
          rcases List.mem_append.1 hq with hq | hq
          · exact (hdis' q h).1 hq
          · exact (hdis' q h).2 hq
        unfold liveIdx
        rw [applyL_kills, if_pos hq]
        simp only
        split
        · rfl
        · rw [idxOf_none hqs]
      · exact liveIdx_loc (by rw [applyL_kills, if_neg hq])
    have hpick : pick (applyL look (kills (b ++ d))) s = pick look s := by
      unfold pick
      exact List.map_congr_left fun i hi => by rw [hidx, hlkK i hi]
    obtain ⟨q1, q2, q3⟩ := pick_real hpost0.real hnd
    rw [hpick] at q1
    rw [hidx] at q3
    have hmem : Mem G H0 (pick look s) w Ic (newRho ρ s) := ⟨fun i y hi => newRho_dom hi, q1⟩
    have hargs : FRs w Ic (newRho ρ s) (ren.renL (liveIdx look s) args') vs.toList :=
      renL_frs (fun i i' y g1 g2 => by rw [q3 i i' g1]; exact g2) _ _ (p3 w I Ic ρ _ hre hpub.left hpub.right hvs)
    refine (h4 w Ic (newRho ρ s) vs hmem hargs).mono fun e w' hpost => ?_
    obtain ⟨x, I1, ρ1, he, hx, hm1, hkeep, hch⟩ := hpost
    have hfresh : ∀ i, p ≤ i → i < p + (L.length - s.length) → look i = .dead ∧ ρ i = none := by
      intro i hi1 hi2
      obtain ⟨B, hB⟩ := news_mem ((L.drop s.length).map (blkRen (backTo s p))) p (i - p) (by simp; omega)
      rw [show p + (i - p) = i by omega] at hB
      exact hfr i B (List.mem_append_right _ hB) hi1
    have hns : ∀ i, p ≤ i → i < p + (L.length - s.length) → i ∉ s := fun i h1 h2 h3 => hlive i h3 (hfresh i h1 h2).1
    let ρ' : Nat → Option Info := fun i => match idxOf s i with
      | some j => ρ1 j
      | none => if p ≤ i ∧ i < p + (L.length - s.length) then ρ1 (s.length + (i - p)) else ρ i
    let I' : Nat → Prop := fun c => I1 c ∧ (b ≠ [] → ∀ i y, i ∈ b → ρ i = some y → y.blk ≠ some c)
    have hlook := lift_look (look := look) (L := L) (p := p) (Rn := blkRen (backTo s p)) hnd h3 (fun i hi => (hdis' i hi).2) hns rfl
    have hback : ∀ j i' y, backTo s p j = some i' → ρ1 j = some y → ρ' i' = some y := by
      intro j i' y g1 g2
      have hj := hm1.dom j y g2
      unfold backTo at g1
      split at g1
      · rename_i hlt
        have hget : s[j]? = some i' := by
          rw [List.getElem?_eq_getElem hlt]
          simp [List.getD_eq_getElem?_getD, List.getElem?_eq_getElem hlt] at g1
          rw [g1]
        show (match idxOf s i' with | some j => ρ1 j | none => _) = some y
        rw [idxOf_of_get hnd hget]; exact g2
      · rename_i hlt
        simp at g1; subst g1
        show (match idxOf s (p + (j - s.length)) with | some j => ρ1 j | none => _) = some y
        rw [idxOf_none (hns _ (by omega) (by omega))]
        simp only
        rw [if_pos ⟨by omega, by omega⟩, show s.length + (p + (j - s.length) - p) = j by omega]; exact g2
    have hext : Ext ρ ρ' := by
      intro i y hy
      show (match idxOf s i with | some j => ρ1 j | none => _) = some y
      cases hi : idxOf s i with
      | some j =>
        have hj := idxOf_get s i j hi
        exact hkeep j y (List.getElem?_eq_some_iff.1 hj).1 (by simp only [newRho, hj]; exact hy)
      | none =>
        simp only
        split
        · rename_i hc; rw [(hfresh i hc.1 hc.2).2] at hy; cases hy
        · exact hy
    have hcase : b = [] ∨ (flatSV v = true ∧ L.all flatBlk = true) := by
      simp only [Bool.or_eq_true, Bool.and_eq_true, List.isEmpty_iff] at hflat
      exact hflat
    have hstay1 : b = [] → Stay w' I1 w' I' := fun hb' c hc => ⟨⟨hc, fun h => absurd hb' h⟩, rfl⟩
    have chgF : FR w' I' ρ1 v x := by
      rcases hcase with hb' | ⟨g1, g2⟩
      · exact hx.mono (hstay1 hb') (Ext.refl _)
      · exact flat_fr v x g1 hx
    have chgB : ∀ j, BR w' I' ρ1 j (blkOf L j) := by
      intro j
      rcases hcase with hb' | ⟨g1, g2⟩
      · exact (hm1.real.blk j).mono (hstay1 hb') (Ext.refl _) fun _ _ _ _ => rfl
      · refine flat_br ?_ (hm1.real.blk j)
        by_cases hj : j < L.length
        · have : blkOf L j = L[j] := by simp [blkOf, List.getD_eq_getElem?_getD, List.getElem?_eq_getElem hj]
          rw [this]; exact List.all_eq_true.1 g2 _ (List.getElem_mem hj)
        · rw [blkOf_out L (by omega)]; rfl
    have hownC : ∀ c, Own (newRho ρ s) (blkOf (pick look s)) c → ∃ i y, i ∈ s ∧ ρ i = some y ∧ y.blk = some c := by
      rintro c ⟨j, y, g1, g2, g3⟩
      unfold newRho at g2
      split at g2
      · rename_i i hj; exact ⟨i, y, List.mem_of_getElem? hj, g2, g3⟩
      · cases g2
    have hstay : Stay w I w' I' := by
      intro c hc
      refine ⟨⟨(hch.stay c (hpub.1 c hc)).1, fun _ i y hi hy hyc => ?_⟩, (hch.stay c (hpub.1 c hc)).2⟩
      exact (hre.own c ⟨i, y, p1 i hi, hy, hyc⟩).2.1 hc
    have hother : ∀ i y c, i ∉ s → look i ≠ .dead → ρ i = some y → y.blk = some c → ¬ Own (newRho ρ s) (blkOf (pick look s)) c := by
      intro i y c g1 g2 g3 g4 ho
      obtain ⟨i', y', k1, k2, k3⟩ := hownC c ho
      have := hre.inj i i' y y' c g2 (hlive i' k1) g3 k2 g4 k3
      subst this; exact g1 k1
    have hfrO : ∀ i y c, i ∉ s → look i ≠ .dead → ρ i = some y → y.blk = some c → w'.heap[c]? = w.heap[c]? := fun i y c g1 g2 g3 g4 =>
      hch.frame c (hre.own c ⟨i, y, g2, g3, g4⟩).1 (hother i y c g1 g2 g3 g4)
    have cls : ∀ i y, applyL look (kills d ++ olds s (L.map (blkRen (backTo s p))) ++ news p ((L.drop s.length).map (blkRen (backTo s p)))) i ≠ .dead → ρ' i = some y →
        (∃ j, ρ1 j = some y ∧ blkOf L j ≠ .dead ∧ backTo s p j = some i) ∨ (i ∉ s ∧ look i ≠ .dead ∧ ρ i = some y ∧ i ∉ d) := by
      intro i y g1 g2
      rw [hlook] at g1
      change (match idxOf s i with | some j => ρ1 j | none => if p ≤ i ∧ i < p + (L.length - s.length) then ρ1 (s.length + (i - p)) else ρ i) = some y at g2
      cases hi : idxOf s i with
      | some j =>
        rw [hi] at g1 g2
        have hj := idxOf_get s i j hi
        have hjl := (List.getElem?_eq_some_iff.1 hj).1
        refine .inl ⟨j, g2, blkRen_dead g1, ?_⟩
        unfold backTo
        rw [if_pos hjl]
        simp [List.getD_eq_getElem?_getD, hj]
      | none =>
        rw [hi] at g1 g2
        simp only at g1 g2
        by_cases hc : p ≤ i ∧ i < p + (L.length - s.length)
        · rw [if_pos hc] at g1 g2
          refine .inl ⟨_, g2, blkRen_dead g1, ?_⟩
          unfold backTo
          rw [if_neg (by omega)]
          congr 1; omega
        · rw [if_neg hc] at g1 g2
          have hns' : i ∉ s := fun h => by
            obtain ⟨j, hj⟩ := List.getElem?_of_mem h
            rw [idxOf_of_get hnd hj] at hi; cases hi
          by_cases hd : i ∈ d
          · rw [if_pos hd] at g1; exact absurd rfl g1
          · rw [if_neg hd] at g1; exact .inr ⟨hns', g1, g2, hd⟩
    have hbackinj : ∀ j j' i, j < L.length → j' < L.length → backTo s p j = some i → backTo s p j' = some i → j = j' := by
      have key : ∀ j i, j < L.length → backTo s p j = some i → (j < s.length ∧ s[j]? = some i) ∨ (s.length ≤ j ∧ i = p + (j - s.length) ∧ i ∉ s) := by
        intro j i hj hb
        unfold backTo at hb
        split at hb
        · rename_i hlt
          left
          refine ⟨hlt, ?_⟩
          rw [List.getElem?_eq_getElem hlt]
          simpa [List.getD_eq_getElem?_getD, List.getElem?_eq_getElem hlt] using hb
        · simp at hb; subst hb
          exact .inr ⟨by omega, rfl, hns _ (by omega) (by omega)⟩
      intro j j' i hj hj' h1 h2
      rcases key j i hj h1 with ⟨a1, a2⟩ | ⟨a1, a2, a3⟩ <;> rcases key j' i hj' h2 with ⟨b1, b2⟩ | ⟨b1, b2, b3⟩
      · have e1 := idxOf_of_get hnd a2
        have e2 := idxOf_of_get hnd b2
        rw [e1] at e2; injection e2
      · exact absurd (List.mem_of_getElem? a2) b3
      · exact absurd (List.mem_of_getElem? b2) a3
      · omega
    have hownOld : ∀ c, Own (newRho ρ s) (blkOf (pick look s)) c → Own ρ look c := fun c hc => by
      obtain ⟨i, y, g1, g2, g3⟩ := hownC c hc
      exact ⟨i, y, hlive i g1, g2, g3⟩
    have hmix : ∀ i y c j, i ∉ s → look i ≠ .dead → ρ i = some y → y.blk = some c → ∀ z, ρ1 j = some z → blkOf L j ≠ .dead → z.blk ≠ some c := by
      intro i y c j g1 g2 g3 g4 z k1 k2 k3
      rcases hch.own c ⟨j, z, k2, k1, k3⟩ with o | o
      · exact hother i y c g1 g2 g3 g4 o
      · have := (hre.own c ⟨i, y, g2, g3, g4⟩).1; omega
    have hreal : Real G H0 w' I' ρ' (applyL look (kills d ++ olds s (L.map (blkRen (backTo s p))) ++ news p ((L.drop s.length).map (blkRen (backTo s p))))) := by
      refine ⟨fun i => ?_, fun i i' y y' c g1 g2 g3 g4 g5 g6 => ?_, fun c hc => ?_, fun c hc => hm1.real.imm c hc.1, hm1.real.glob, hm1.real.gsz⟩
      · rw [hlook]
        cases hi : idxOf s i with
        | some j =>
          simp only
          refine blkRen_br hback (fun y hy => ?_) (chgB j)
          show (match idxOf s i with | some j => ρ1 j | none => _) = some y
          rw [hi]; exact hy
        | none =>
          simp only
          have hns' : i ∉ s := fun h => by
            obtain ⟨j, hj⟩ := List.getElem?_of_mem h
            rw [idxOf_of_get hnd hj] at hi; cases hi
          by_cases hc : p ≤ i ∧ i < p + (L.length - s.length)
          · rw [if_pos hc]
            refine blkRen_br hback (fun y hy => ?_) (chgB _)
            show (match idxOf s i with | some j => ρ1 j | none => _) = some y
            rw [hi]; simp only; rw [if_pos hc]; exact hy
          · rw [if_neg hc]
            split
            · trivial
            · by_cases hl : look i = .dead
              · rw [hl]; trivial
              · exact (hre.blk i).mono hstay hext fun y c hy hyc => hfrO i y c hns' hl hy hyc
      · rcases cls i y g1 g3 with ⟨j, k1, k2, k3⟩ | ⟨k1, k2, k3, k4⟩ <;> rcases cls i' y' g2 g4 with ⟨j', m1, m2, m3⟩ | ⟨m1, m2, m3, m4⟩
        · have := hm1.real.inj j j' y y' c k2 m2 k1 m1 g5 g6
          subst this
          rw [k3] at m3; injection m3
        · exact absurd g5 (hmix i' y' c j m1 m2 m3 g6 y k1 k2)
        · exact absurd g6 (hmix i y c j' k1 k2 k3 g5 y' m1 m2)
        · exact hre.inj i i' y y' c k2 m2 k3 m3 g5 g6
      · obtain ⟨i, y, g1, g2, g3⟩ := hc
        rcases cls i y g1 g2 with ⟨j, k1, k2, k3⟩ | ⟨k1, k2, k3, k4⟩
        · obtain ⟨o1, o2, o3⟩ := hm1.real.own c ⟨j, y, k2, k1, g3⟩
          exact ⟨o1, fun h => o2 h.1, o3⟩
        · obtain ⟨o1, o2, o3⟩ := hre.own c ⟨i, y, k2, k3, g3⟩
          refine ⟨Nat.lt_of_lt_of_le o1 hch.size, fun hI => ?_, o3⟩
          by_cases hib : i ∈ b
          · exact hI.2 (fun h => by rw [h] at hib; cases hib) i y hib k3 g3
          · rcases hch.pubd c hI.1 with o | o | o
            · refine (hpost0.real.own c ⟨i, y, ?_, k3, g3⟩).2.1 o
              rw [applyL_kills, if_neg (by simp [hib, k4])]; exact k2
            · exact hother i y c k1 k2 k3 g3 o
            · omega
    refine ⟨x, I', ρ', he, ⟨hreal, hext, hstay, hch.size, fun c hc ho => hch.frame c hc fun h => ho (hownOld c h), fun c hc => ?_, fun c hc => ?_, hch.os, hch.tape, hch.output⟩, ren_fr hback v x chgF, fun i y hi => ?_⟩
    · obtain ⟨i, y, g1, g2, g3⟩ := hc
      rcases cls i y g1 g2 with ⟨j, k1, k2, k3⟩ | ⟨k1, k2, k3, k4⟩
      · exact (hch.own c ⟨j, y, k2, k1, g3⟩).imp (hownOld c) id
      · exact .inl ⟨i, y, k2, k3, g3⟩
    · rcases hch.pubd c hc.1 with o | o | o
      · exact hpost0.pubd c o
      · exact .inr (.inl (hownOld c o))
      · exact .inr (.inr o)
    · change (match idxOf s i with | some j => ρ1 j | none => if p ≤ i ∧ i < p + (L.length - s.length) then ρ1 (s.length + (i - p)) else ρ i) = some y at hi
      cases hx : idxOf s i with
      | some j =>
        right
        obtain ⟨B, hB⟩ := olds_mem s (L.map (blkRen (backTo s p))) i (by simpa using h3) (List.mem_of_getElem? (idxOf_get s i j hx))
        exact ⟨B, List.mem_append_left _ (List.mem_append_right _ hB)⟩
      | none =>
        rw [hx] at hi
        simp only at hi
        by_cases hc : p ≤ i ∧ i < p + (L.length - s.length)
        · right
          obtain ⟨B, hB⟩ := news_mem ((L.drop s.length).map (blkRen (backTo s p))) p (i - p) (by simp; omega)
          rw [show p + (i - p) = i by omega] at hB
          exact ⟨B, List.mem_append_right _ hB⟩
        · rw [if_neg hc] at hi; exact .inl hi
end
end Go.AM
set_option linter.unusedSimpArgs false
set_option linter.unusedVariables false
namespace Go.AM
section
variable {R : Type} {P : Program} {G : Nat} {H0 : Array Obj}

def FOk (P : Program) (G : Nat) (H0 : Array Obj) (f : Nat) (F : Con R) : Prop :=
  ∀ args hp K r, F args hp K = some r → ∃ v L, K v L = some r ∧ (∀ K', F args hp K' = K' v L) ∧ ConOk P G H0 f args hp v L

def Plain (P : Program) (f : Nat) : Prop := ∃ fn, P.funcs[f]? = some fn ∧ (fn.name == "runtime.NumGoroutine") = false ∧ fn.body.isNone = false

def tyFrom (tab : Nat → Option TI) (t : Nat) : Option Ty := match tab t with
  | some i => i.ty
  | none => none

def mkEnv (tab : Nat → Option TI) (ct : Nat → Option (List Mode × Con R)) : Env R where
  tab := tab
  con f args look p k := match ct f with
    | some (ms, F) => lift (tyFrom tab) ms F args look p k
    | none => none

theorem mkEnv_ok {tab : Nat → Option TI} {ct : Nat → Option (List Mode × Con R)} (htab : ∀ t ti, tab t = some ti → TIok P t ti)
    (hct : ∀ f ms F, ct f = some (ms, F) → Plain P f ∧ FOk P G H0 f F) : EnvOk P G H0 (mkEnv tab ct) where
  tab := htab
  con f args look p k r h := by
    simp only [mkEnv] at h
    split at h
    · rename_i ms F hf
      obtain ⟨h1, h2⟩ := hct f ms F hf
      refine ⟨h1, ?_⟩
      obtain ⟨v, δ, τ, g1, g2, g3⟩ := lift_ok h2 h
      exact ⟨v, δ, τ, g1, fun look' hlk k' => by simp only [mkEnv, hf]; exact g2 look' hlk k', g3⟩
    · cases h

theorem FOk.of_run (hm : P.follows .mixedOrders = true) {f : Nat} {fn : Func} {c : Code} (hf : P.funcs[f]? = some fn) (hb : fn.body = some c) {F : Con R}
    (h : ∀ args hp K r, F args hp K = some r → ∃ (E : Env R) (C : Cuts) (pb : Option (List (Option Ty))) (n : Nat), EnvOk P G H0 E ∧ ∀ K', xfun E C fn pb n args hp K' = F args hp K') : FOk P G H0 f F := by
  intro args hp K r hr
  obtain ⟨E, C, pb, n, hE, he⟩ := h args hp K r hr
  rw [← he] at hr
  obtain ⟨v, L, h1, h2, h3⟩ := xfun_ok hE hm hf hb hr
  exact ⟨v, L, h1, fun K' => by rw [← he]; exact h2 K', h3⟩
end
end Go.AM
set_option linter.unusedSimpArgs false
set_option linter.unusedVariables false
namespace Go.AM

inductive ZE where
  | ty (t : Ty) | nilp | nils | nilm | nilf | nili | dead

def ZE.sv : ZE → SV
  | .ty t => .pv t t.dflt
  | .nilp => .nilp
  | .nils => .nils
  | .nilm => .nilm
  | .nilf => .nilf
  | .nili => .nili
  | .dead => .dead

structure Row where
  kind : TK
  size : Nat
  agg : Bool
  bytes : Nat
  ty : Option Ty
  zs : List ZE
  eqs : Bool := false

def Row.ti (r : Row) : TI := { kind := r.kind, size := r.size, agg := r.agg, bytes := r.bytes, ty := r.ty, zero := r.zs.map ZE.sv, eqs := r.eqs }

inductive Tree (α : Type) where
  | leaf
  | node (l : Tree α) (k : Nat) (v : α) (r : Tree α)

def Tree.get {α : Type} : Tree α → Nat → Option α
  | .leaf, _ => none
  | .node l k v r, t => match Nat.decEq t k with
    | .isTrue _ => some v
    | .isFalse _ => match Nat.blt t k with
      | true => l.get t
      | false => r.get t

def Tree.all {α : Type} (f : Nat → α → Bool) : Tree α → Bool
  | .leaf => true
  | .node l k v r => l.all f && (f k v && r.all f)

theorem Tree.get_all {α : Type} {f : Nat → α → Bool} : ∀ {T : Tree α} {t : Nat} {v : α}, T.all f = true → T.get t = some v → f t v = true
  | .leaf, _, _, _, h => by simp [Tree.get] at h
  | .node l k v' r, t, v, ha, h => by
    simp only [Tree.all, Bool.and_eq_true] at ha
    rw [Tree.get] at h
    split at h
    · rename_i e _; subst e; simp at h; subst h; exact ha.2.1
    · split at h
      · exact Tree.get_all ha.1 h
      · exact Tree.get_all ha.2.2 h

def ckKind : TK → TypeDesc → Bool
  | .int k, .int k' => decide (k = k')
  | .bool, .bool => true
  | .str, .string => true
  | .slice e, .slice e' => e == e'
  | .ptr e, .pointer e' => e == e'
  | .struct offs, .struct fs => decide (fs.toList.map (fun f => (f.offset, f.type)) = offs)
  | .arr n e, .array n' e' => n == n' && e == e'
  | .map k v, .map k' v' => k == k' && v == v'
  | .iface, .interface _ => true
  | .other, _ => true
  | _, _ => false

theorem ckKind_ok {k : TK} {d : TypeDesc} (h : ckKind k d = true) : kindOk k d := by
  unfold ckKind at h
  split at h <;> simp_all [kindOk]

def times {α : Type} (f : α → Option α) : Nat → α → Option α
  | 0, a => some a
  | n + 1, a => match f a with
    | some b => times f n b
    | none => none

def ckZero : Ty → List Value → Option (List Value)
  | .int k, .int k' n :: r => if k = k' ∧ n = 0 then some r else none
  | .bool, .bool false :: r => some r
  | .str, .string s :: r => if s.data.toList = [] then some r else none
  | .unit, r => some r
  | .prod a b, vs => match ckZero a vs with
    | some r => ckZero b r
    | none => none
  | .sl _, .slice none 0 0 :: r => some r
  | .ptr _, .pointer none :: r => some r
  | .err, .nilIface :: r => some r
  | .arr n a, vs => times (ckZero a) n vs
  | _, _ => none

theorem ckZero_ok : ∀ (t : Ty) (vs r : List Value), ckZero t vs = some r → ∃ l, vs = l ++ r ∧ ∀ w I, PR w I t t.dflt l := by
  intro t
  induction t with
  | int k =>
    intro vs r h
    cases vs with
    | nil => simp [ckZero] at h
    | cons v vs =>
      cases v <;> simp [ckZero] at h
      obtain ⟨⟨rfl, rfl⟩, rfl⟩ := h
      exact ⟨[.int _ 0], rfl, fun w I => by rw [PR]; rfl⟩
  | bool =>
    intro vs r h
    unfold ckZero at h
    split at h <;> simp_all
    exact ⟨[.bool false], by simp, fun w I => by rw [PR]; rfl⟩
  | str =>
    intro vs r h
    unfold ckZero at h
    split at h <;> simp_all
    obtain ⟨h1, rfl⟩ := h
    refine ⟨[.string _], rfl, fun w I => ?_⟩
    rw [PR]
    congr 2
    apply ByteArray.ext
    rw [h1]; rfl
  | unit =>
    intro vs r h
    simp [ckZero] at h; subst h
    exact ⟨[], rfl, fun w I => by rw [PR]⟩
  | prod a b iha ihb =>
    intro vs r h
    rw [ckZero] at h
    split at h
    · rename_i r1 h1
      obtain ⟨l1, rfl, k1⟩ := iha _ _ h1
      obtain ⟨l2, rfl, k2⟩ := ihb _ _ h
      exact ⟨l1 ++ l2, by simp, fun w I => by rw [PR]; exact ⟨l1, l2, rfl, k1 w I, k2 w I⟩⟩
    · cases h
  | sl a _ =>
    intro vs r h
    unfold ckZero at h
    split at h <;> simp_all
    exact ⟨[.slice none 0 0], by simp, fun w I => by rw [PR]; exact .inl ⟨rfl, _, _, rfl⟩⟩
  | ptr a _ =>
    intro vs r h
    unfold ckZero at h
    split at h <;> simp_all
    exact ⟨[.pointer none], by simp, fun w I => by rw [Ty.dflt, PR]⟩
  | err =>
    intro vs r h
    unfold ckZero at h
    split at h <;> simp_all
    exact ⟨[.nilIface], by simp, fun w I => by rw [Ty.dflt, PR]⟩
  | arr n a ih =>
    intro vs r h
    rw [ckZero] at h
    have key : ∀ (n : Nat) (vs r : List Value), times (ckZero a) n vs = some r → ∃ css : List (List Value), vs = css.flatten ++ r ∧ ∀ w I, All2 (PR w I a) (List.replicate n a.dflt) css := by
      intro n
      induction n with
      | zero => intro vs r h; simp [times] at h; subst h; exact ⟨[], rfl, fun w I => trivial⟩
      | succ n ihn =>
        intro vs r h
        rw [times] at h
        split at h
        · rename_i r1 h1
          obtain ⟨l1, rfl, k1⟩ := ih _ _ h1
          obtain ⟨css, rfl, k2⟩ := ihn _ _ h
          exact ⟨l1 :: css, by simp, fun w I => ⟨k1 w I, k2 w I⟩⟩
        · cases h
    obtain ⟨css, rfl, k⟩ := key n vs r h
    exact ⟨css.flatten, rfl, fun w I => by rw [PR]; exact ⟨by simp [Ty.dflt], css, k w I, rfl⟩⟩

def ckZE : List ZE → List Value → Bool
  | [], [] => true
  | .ty t :: zs, vs => match ckZero t vs with
    | some r => ckZE zs r
    | none => false
  | .nilp :: zs, .pointer none :: r => ckZE zs r
  | .nils :: zs, .slice none 0 0 :: r => ckZE zs r
  | .nilm :: zs, .map none :: r => ckZE zs r
  | .nilf :: zs, .nilFunc :: r => ckZE zs r
  | .nili :: zs, .nilIface :: r => ckZE zs r
  | .dead :: zs, v :: r => v.oneCell' && ckZE zs r
  | _, _ => false

theorem ze_one {z : ZE} {zs : List ZE} (ih : ∀ (vs : List Value), ckZE zs vs = true → ∀ w I ρ, ERs w I ρ (zs.map ZE.sv) vs) {w : World} {I : Nat → Prop} {ρ : Nat → Option Info} (v : Value) (r : List Value)
    (h1 : v.oneCell' = true) (h2 : z.sv.isPv = false) (h3 : FR w I ρ z.sv v) (h4 : ckZE zs r = true) : ERs w I ρ ((z :: zs).map ZE.sv) (v :: r) :=
  ERs.cons.2 ⟨[v], r, rfl, (CR.ref h2).2 ⟨v, rfl, h1, h3⟩, ih r h4 w I ρ⟩

theorem ckZE_ok : ∀ (zs : List ZE) (vs : List Value), ckZE zs vs = true → ∀ w I ρ, ERs w I ρ (zs.map ZE.sv) vs := by
  intro zs
  induction zs with
  | nil =>
    intro vs h w I ρ
    cases vs with
    | nil => exact ERs.nil.2 rfl
    | cons => simp [ckZE] at h
  | cons z zs ih =>
    intro vs h w I ρ
    cases z with
    | ty t =>
      rw [ckZE] at h
      split at h
      · rename_i r h1
        obtain ⟨l, rfl, k⟩ := ckZero_ok _ _ _ h1
        exact ERs.cons.2 ⟨l, r, rfl, CR.pv.2 (k w I), ih r h w I ρ⟩
      · cases h
    | nilp =>
      have hv : ∃ r, vs = .pointer none :: r ∧ ckZE zs r = true := by
        unfold ckZE at h
        split at h <;> simp_all
      obtain ⟨r, rfl, h⟩ := hv
      exact ze_one ih _ r rfl rfl (by rw [ZE.sv, FR]) h
    | nils =>
      have hv : ∃ r, vs = .slice none 0 0 :: r ∧ ckZE zs r = true := by
        unfold ckZE at h
        split at h <;> simp_all
      obtain ⟨r, rfl, h⟩ := hv
      exact ze_one ih _ r rfl rfl (by rw [ZE.sv, FR]) h
    | nilm =>
      have hv : ∃ r, vs = .map none :: r ∧ ckZE zs r = true := by
        unfold ckZE at h
        split at h <;> simp_all
      obtain ⟨r, rfl, h⟩ := hv
      exact ze_one ih _ r rfl rfl (by rw [ZE.sv, FR]) h
    | nilf =>
      have hv : ∃ r, vs = .nilFunc :: r ∧ ckZE zs r = true := by
        unfold ckZE at h
        split at h <;> simp_all
      obtain ⟨r, rfl, h⟩ := hv
      exact ze_one ih _ r rfl rfl (by rw [ZE.sv, FR]) h
    | nili =>
      have hv : ∃ r, vs = .nilIface :: r ∧ ckZE zs r = true := by
        unfold ckZE at h
        split at h <;> simp_all
      obtain ⟨r, rfl, h⟩ := hv
      exact ze_one ih _ r rfl rfl (by rw [ZE.sv, FR]) h
    | dead =>
      have hv : ∃ v r, vs = v :: r ∧ v.oneCell' = true ∧ ckZE zs r = true := by
        cases vs with
        | nil => simp [ckZE] at h
        | cons v r => simp only [ckZE, Bool.and_eq_true] at h; exact ⟨v, r, rfl, h.1, h.2⟩
      obtain ⟨v, r, rfl, h1, h⟩ := hv
      exact ze_one ih _ r h1 rfl (by rw [ZE.sv, FR]; trivial) h

def aggV : Value → Bool
  | .agg _ => true
  | _ => false

def ckField : ZE → TypeDesc → Bool
  | .ty (.int _), .int _ => true
  | .ty .str, .string => true
  | .ty .bool, .bool => true
  | _, _ => false

def ckFE (P : Program) : Nat → List ZE → List Field → Bool
  | _, [], [] => true
  | n, z :: zs, f :: fs => f.name != "_" && f.offset == n && (match P.underlying f.type with | some d => ckField z d | none => false) && ckFE P (n + 1) zs fs
  | _, _, _ => false

theorem ckFE_ok {P : Program} : ∀ (n : Nat) (zs : List ZE) (fs : List Field), ckFE P n zs fs = true → FE P n (zs.map ZE.sv) fs
  | _, [], [], _ => trivial
  | n, z :: zs, f :: fs, h => by
    simp only [ckFE, Bool.and_eq_true, bne_iff_ne, ne_eq, beq_iff_eq] at h
    obtain ⟨⟨⟨h1, h2⟩, h3⟩, h4⟩ := h
    split at h3
    · rename_i d hd
      refine ⟨h1, h2, ⟨d, hd, ?_⟩, ckFE_ok (n + 1) zs fs h4⟩
      unfold ckField at h3
      split at h3
      · exact ⟨_, rfl⟩
      · rfl
      · rfl
      · cases h3
    · cases h3
  | _, [], _ :: _, h => by simp [ckFE] at h
  | _, _ :: _, [], h => by simp [ckFE] at h

def ckEqs (P : Program) (t : Nat) (zs : List ZE) : Bool :=
  !(P.stoodInHeld t) && !(P.eqGuardType P.depth t) && match P.underlying t with
    | some (.struct fs) => ckFE P 0 zs fs.toList
    | _ => false

def ckRow (P : Program) (t : Nat) (r : Row) : Bool := match P.underlying t, P.info? t with
  | some d, some i => match i.zero with
    | some z => ckKind r.kind d && (aggDesc d == r.agg) && (i.size == r.size) && (i.bytes == r.bytes) && ckZE r.zs z.cells.toList && (match r.agg with | true => aggV z | false => z.oneCell') && (z.cells.size == r.size) &&
      (match r.ty with | none => true | some T => T.size == r.size && T.isAgg == r.agg && (match ckZero T z.cells.toList with | some [] => true | _ => false)) && (!r.eqs || ckEqs P t r.zs)
    | none => false
  | _, _ => false

theorem ckRow_ok {P : Program} {t : Nat} {r : Row} (h : ckRow P t r = true) : TIok P t r.ti := by
  unfold ckRow at h
  split at h
  case h_2 => cases h
  case h_1 d i hd hi =>
  split at h
  case h_2 => cases h
  case h_1 z hz =>
  simp only [Bool.and_eq_true, beq_iff_eq] at h
  obtain ⟨⟨⟨⟨⟨⟨⟨⟨h1, h2⟩, h3⟩, h4⟩, h5⟩, h6⟩, h7⟩, h8⟩, h9⟩ := h
  refine ⟨⟨d, hd, ckKind_ok h1, h2⟩, ⟨i, z, hi, h3, h4, hz, fun w I ρ => ckZE_ok _ _ h5 w I ρ, fun ha => ?_, fun ha => ?_, h7⟩, fun T hT => ?_, fun he => ?_⟩
  · have ha' : r.agg = true := ha
    rw [ha'] at h6
    cases z with
    | agg cs => exact ⟨cs, rfl⟩
    | _ => simp [aggV] at h6
  · have ha' : r.agg = false := ha
    rw [ha'] at h6; exact h6
  · have hT' : r.ty = some T := hT
    rw [hT'] at h8
    simp only [Bool.and_eq_true, beq_iff_eq] at h8
    obtain ⟨⟨k1, k2⟩, k3⟩ := h8
    refine ⟨k1, k2, i, z, hi, hz, fun w I => ?_⟩
    split at k3
    · rename_i hc
      obtain ⟨l, e, k⟩ := ckZero_ok _ _ _ hc
      rw [List.append_nil] at e
      rw [e]; exact k w I
    · cases k3
  · have he' : r.eqs = true := he
    rw [he'] at h9
    simp only [Bool.not_true, Bool.false_or, ckEqs, Bool.and_eq_true, Bool.not_eq_true'] at h9
    obtain ⟨⟨k1, k2⟩, k3⟩ := h9
    refine ⟨k1, k2, ?_⟩
    split at k3
    · rename_i fs hfs
      exact ⟨fs, hfs, ckFE_ok 0 _ _ k3⟩
    · cases k3

def tabOf (T : Tree Row) (t : Nat) : Option TI := match T.get t with
  | some r => some r.ti
  | none => none

theorem tabOf_ok {P : Program} {T : Tree Row} (h : T.all (ckRow P) = true) (t : Nat) (ti : TI) (ht : tabOf T t = some ti) : TIok P t ti := by
  unfold tabOf at ht
  split at ht
  · rename_i r hr
    simp at ht; subst ht
    exact ckRow_ok (Tree.get_all h hr)
  · cases ht
end Go.AM
set_option linter.unusedSimpArgs false
set_option linter.unusedVariables false
namespace Go.AM

inductive P1 where
  | dat (t : Ty) | ptr (i c : Nat) | sl (i : Nat) | win (i : Nat) | rptr (i j : Nat) | mapr (i : Nat) | nils | nilp | nilm | nilf | nili | emp | undef

@[reducible] def P1.X : P1 → Type
  | .dat t => t.D
  | .win _ => Nat × Nat
  | .rptr _ _ => Nat
  | _ => Unit

def svD (t : Ty) (x : t.D) : SV := match t.isAgg with
  | true => .agg (flat t x)
  | false => .pv t x

def P1.inst : (p : P1) → p.X → SV
  | .dat t, x => svD t x
  | .ptr i c, _ => .ptr i c
  | .sl i, _ => .sl i none
  | .win i, x => .sl i (some (x.1, x.2))
  | .rptr i j, x => .rptr i x j
  | .mapr i, _ => .mapr i
  | .nils, _ => .nils
  | .nilp, _ => .nilp
  | .nilm, _ => .nilm
  | .nilf, _ => .nilf
  | .nili, _ => .nili
  | .emp, _ => .emp
  | .undef, _ => .undef

def dataOf (t : Ty) (v : SV) : Option t.D := match entsOf v with
  | some es => if isAggV v = t.isAgg then whole t es else none
  | none => none

def unitIf (c : Prop) [Decidable c] : Option Unit := if c then some () else none

theorem unitIf_some {c : Prop} [Decidable c] {x : Unit} (h : unitIf c = some x) : c := by
  unfold unitIf at h
  split at h
  · assumption
  · cases h

def P1.get : (p : P1) → SV → Option p.X
  | .dat t => dataOf t
  | .ptr i c => fun v => match v with | .ptr i' c' => unitIf (i = i' ∧ c = c') | _ => none
  | .sl i => fun v => match v with | .sl i' none => unitIf (i = i') | _ => none
  | .win i => fun v => match v with | .sl i' (some p) => if i = i' then some p else none | _ => none
  | .rptr i j => fun v => match v with | .rptr i' e j' => if i = i' ∧ j = j' then some e else none | _ => none
  | .mapr i => fun v => match v with | .mapr i' => unitIf (i = i') | _ => none
  | .nils => fun v => match v with | .nils => some () | _ => none
  | .nilp => fun v => match v with | .nilp => some () | _ => none
  | .nilm => fun v => match v with | .nilm => some () | _ => none
  | .nilf => fun v => match v with | .nilf => some () | _ => none
  | .nili => fun v => match v with | .nili => some () | _ => none
  | .emp => fun v => match v with | .emp => some () | _ => none
  | .undef => fun v => match v with | .undef => some () | _ => none

def Le (v v' : SV) : Prop := ∀ w I ρ x, FR w I ρ v x → FR w I ρ v' x

theorem Le.refl (v : SV) : Le v v := fun _ _ _ _ h => h

theorem P1.get_le : ∀ {p : P1} {v : SV} {x : p.X}, p.get v = some x → Le v (p.inst x) := by
  intro p v x h
  cases p with
  | dat t =>
    intro w I ρ y hy
    have hn : norm1 (some t) v = some (svD t x) := by
      simp only [P1.get, dataOf] at h
      simp only [norm1]
      split at h
      · rename_i es he
        rw [he]
        simp only
        split at h
        · rename_i hi
          rw [h]
          simp only [hi, if_true]
          unfold svD
          cases t.isAgg <;> rfl
        · cases h
      · cases h
    exact norm1_fr hn hy
  | ptr i c =>
    simp only [P1.get] at h
    split at h
    · obtain ⟨rfl, rfl⟩ := unitIf_some h; exact Le.refl _
    · cases h
  | sl i =>
    simp only [P1.get] at h
    split at h
    · obtain rfl := unitIf_some h; exact Le.refl _
    · cases h
  | win i =>
    simp only [P1.get] at h
    split at h
    · split at h
      · rename_i hc; subst hc; simp only [Option.some.injEq] at h; subst h; exact Le.refl _
      · cases h
    · cases h
  | rptr i j =>
    simp only [P1.get] at h
    split at h
    · split at h
      · rename_i hc; obtain ⟨rfl, rfl⟩ := hc; simp only [Option.some.injEq] at h; subst h; exact Le.refl _
      · cases h
    · cases h
  | mapr i =>
    simp only [P1.get] at h
    split at h
    · obtain rfl := unitIf_some h; exact Le.refl _
    · cases h
  | _ =>
    simp only [P1.get] at h
    split at h
    · exact Le.refl _
    · cases h

theorem P1.get_eq : ∀ {p : P1} {v : SV} {x : p.X}, (∀ t, p ≠ .dat t) → p.get v = some x → v = p.inst x := by
  intro p v x hp h
  cases p with
  | dat t => exact absurd rfl (hp t)
  | ptr i c =>
    simp only [P1.get] at h
    split at h
    · obtain ⟨rfl, rfl⟩ := unitIf_some h; rfl
    · cases h
  | sl i =>
    simp only [P1.get] at h
    split at h
    · obtain rfl := unitIf_some h; rfl
    · cases h
  | win i =>
    simp only [P1.get] at h
    split at h
    · split at h
      · rename_i hc; subst hc; simp only [Option.some.injEq] at h; subst h; rfl
      · cases h
    · cases h
  | rptr i j =>
    simp only [P1.get] at h
    split at h
    · split at h
      · rename_i hc; obtain ⟨rfl, rfl⟩ := hc; simp only [Option.some.injEq] at h; subst h; rfl
      · cases h
    · cases h
  | mapr i =>
    simp only [P1.get] at h
    split at h
    · obtain rfl := unitIf_some h; rfl
    · cases h
  | _ =>
    simp only [P1.get] at h
    split at h
    · rfl
    · cases h

def P1.getE : (p : P1) → SV → Option p.X
  | .dat t => fun v => match v with | .pv t' x => castTy t' t x | _ => none
  | p => p.get

def P1.instE : (p : P1) → p.X → SV
  | .dat t => fun x => .pv t x
  | p => p.inst

theorem P1.getE_eq : ∀ {p : P1} {v : SV} {x : p.X}, p.getE v = some x → v = p.instE x := by
  intro p v x h
  cases p with
  | dat t =>
    simp only [P1.getE] at h
    split at h
    · rename_i t' y
      unfold castTy at h
      split at h
      · rename_i e; subst e; simp only [Option.some.injEq] at h; subst h; rfl
      · cases h
    · cases h
  | ptr i c => exact P1.get_eq (p := .ptr i c) (fun t e => nomatch e) h
  | sl i => exact P1.get_eq (p := .sl i) (fun t e => nomatch e) h
  | win i => exact P1.get_eq (p := .win i) (fun t e => nomatch e) h
  | rptr i j => exact P1.get_eq (p := .rptr i j) (fun t e => nomatch e) h
  | mapr i => exact P1.get_eq (p := .mapr i) (fun t e => nomatch e) h
  | nils => exact P1.get_eq (p := .nils) (fun t e => nomatch e) h
  | nilp => exact P1.get_eq (p := .nilp) (fun t e => nomatch e) h
  | nilm => exact P1.get_eq (p := .nilm) (fun t e => nomatch e) h
  | nilf => exact P1.get_eq (p := .nilf) (fun t e => nomatch e) h
  | nili => exact P1.get_eq (p := .nili) (fun t e => nomatch e) h
  | emp => exact P1.get_eq (p := .emp) (fun t e => nomatch e) h
  | undef => exact P1.get_eq (p := .undef) (fun t e => nomatch e) h

@[reducible] def XL : List P1 → Type
  | [] => Unit
  | p :: ps => p.X × XL ps

def instL : (ps : List P1) → XL ps → List SV
  | [], _ => []
  | p :: ps, x => p.inst x.1 :: instL ps x.2

def getL : (ps : List P1) → List SV → Option (XL ps)
  | [], [] => some ()
  | p :: ps, v :: vs => match p.get v with
    | some x => match getL ps vs with
      | some y => some (x, y)
      | none => none
    | none => none
  | _, _ => none

def instEL : (ps : List P1) → XL ps → List SV
  | [], _ => []
  | p :: ps, x => p.instE x.1 :: instEL ps x.2

def getEL : (ps : List P1) → List SV → Option (XL ps)
  | [], [] => some ()
  | p :: ps, v :: vs => match p.getE v with
    | some x => match getEL ps vs with
      | some y => some (x, y)
      | none => none
    | none => none
  | _, _ => none

theorem getEL_eq : ∀ {ps : List P1} {vs : List SV} {x : XL ps}, getEL ps vs = some x → vs = instEL ps x
  | [], [], _, _ => rfl
  | [], _ :: _, _, h => by simp [getEL] at h
  | _ :: _, [], _, h => by simp [getEL] at h
  | p :: ps, v :: vs, x, h => by
    simp only [getEL] at h
    split at h
    · rename_i a ha
      split at h
      · rename_i b hb
        simp only [Option.some.injEq] at h; subst h
        simp only [instEL]
        rw [P1.getE_eq ha, getEL_eq hb]
      · cases h
    · cases h

inductive Pat where
  | p (q : P1) | fn (f : Nat) (caps : List P1) | agg (es : List P1)

@[reducible] def Pat.X : Pat → Type
  | .p q => q.X
  | .fn _ caps => XL caps
  | .agg es => XL es

def Pat.inst : (p : Pat) → p.X → SV
  | .p q => q.inst
  | .fn f caps => fun x => .fn f (instEL caps x)
  | .agg es => fun x => .agg (instEL es x)

def Pat.get : (p : Pat) → SV → Option p.X
  | .p q => q.get
  | .fn f caps => fun v => match v with | .fn f' cs => if f = f' then getEL caps cs else none | _ => none
  | .agg es => fun v => match v with | .agg cs => getEL es cs | _ => none

theorem Pat.get_le : ∀ {p : Pat} {v : SV} {x : p.X}, p.get v = some x → Le v (p.inst x) := by
  intro p v x h
  cases p with
  | p q => exact P1.get_le h
  | fn f caps =>
    simp only [Pat.get] at h
    split at h
    · split at h
      · rename_i hc; subst hc; rw [getEL_eq h]; exact Le.refl _
      · cases h
    · cases h
  | agg es =>
    simp only [Pat.get] at h
    split at h
    · rw [getEL_eq h]; exact Le.refl _
    · cases h

@[reducible] def PL : List Pat → Type
  | [] => Unit
  | p :: ps => p.X × PL ps

def instP : (ps : List Pat) → PL ps → List SV
  | [], _ => []
  | p :: ps, x => p.inst x.1 :: instP ps x.2

def getP : (ps : List Pat) → List SV → Option (PL ps)
  | [], [] => some ()
  | p :: ps, v :: vs => match p.get v with
    | some x => match getP ps vs with
      | some y => some (x, y)
      | none => none
    | none => none
  | _, _ => none

theorem getP_le : ∀ {ps : List Pat} {vs : List SV} {x : PL ps}, getP ps vs = some x → ∀ w I ρ xs, FRs w I ρ vs xs → FRs w I ρ (instP ps x) xs
  | [], [], _, _, w, I, ρ, xs, hx => hx
  | [], _ :: _, _, h, _, _, _, _, _ => by simp [getP] at h
  | _ :: _, [], _, h, _, _, _, _, _ => by simp [getP] at h
  | p :: ps, v :: vs, x, h, w, I, ρ, xs, hx => by
    simp only [getP] at h
    split at h
    · rename_i a ha
      split at h
      · rename_i b hb
        simp only [Option.some.injEq] at h; subst h
        rw [FRs] at hx
        obtain ⟨y, ys, rfl, h1, h2⟩ := hx
        rw [instP, FRs]
        exact ⟨y, ys, rfl, Pat.get_le ha w I ρ y h1, getP_le hb w I ρ ys h2⟩
      · cases h
    · cases h

inductive BPat where
  | dead | box (es : List P1) (ety : Nat) | boxF (pre : List P1) (f : Nat) (caps : List P1) (post : List P1) (ety : Nat) | row (t : Ty) (ety : Nat) (gr : Bool) | map (kt vt : Ty)

@[reducible] def BPat.X : BPat → Type
  | .dead => Unit
  | .box es _ => XL es
  | .boxF a _ b c _ => XL a × XL b × XL c
  | .row t _ _ => List t.D
  | .map kt vt => List (kt.D × vt.D)

def BPat.inst : (p : BPat) → p.X → Blk
  | .dead => fun _ => .dead
  | .box es ety => fun x => .box (instEL es x) ety
  | .boxF a f b c ety => fun x => .box (instEL a x.1 ++ .fn f (instEL b x.2.1) :: instEL c x.2.2) ety
  | .row t ety gr => fun x => .row t x ety gr
  | .map kt vt => fun x => .map kt vt x

def BPat.get : (p : BPat) → Blk → Option p.X
  | .dead => fun B => match B with | .dead => some () | _ => none
  | .box es ety => fun B => match B with | .box es' ety' => if ety = ety' then getEL es es' else none | _ => none
  | .boxF _ _ _ _ _ => fun _ => none
  | .row t ety gr => fun B => match B with | .row t' xs ety' gr' => if ety = ety' ∧ gr = gr' then castTy (.sl t') (.sl t) xs else none | _ => none
  | .map kt vt => fun B => match B with | .map kt' vt' es => if h : kt' = kt ∧ vt' = vt then some (h.1 ▸ h.2 ▸ es) else none | _ => none

theorem BPat.get_eq : ∀ {p : BPat} {B : Blk} {x : p.X}, p.get B = some x → B = p.inst x := by
  intro p B x h
  cases p with
  | dead =>
    simp only [BPat.get] at h
    split at h
    · rfl
    · cases h
  | box es ety =>
    simp only [BPat.get] at h
    split at h
    · split at h
      · rename_i hc; subst hc; rw [getEL_eq h]; rfl
      · cases h
    · cases h
  | boxF => simp only [BPat.get] at h; cases h
  | row t ety gr =>
    simp only [BPat.get] at h
    split at h
    · split at h
      · rename_i hc; obtain ⟨rfl, rfl⟩ := hc
        unfold castTy at h
        split at h
        · rename_i e; cases e; simp only [Option.some.injEq] at h; subst h; rfl
        · cases h
      · cases h
    · cases h
  | map kt vt =>
    simp only [BPat.get] at h
    split at h
    · split at h
      · rename_i hc; obtain ⟨rfl, rfl⟩ := hc; simp only [Option.some.injEq] at h; subst h; rfl
      · cases h
    · cases h

@[reducible] def BL : List BPat → Type
  | [] => Unit
  | p :: ps => p.X × BL ps

def instB : (ps : List BPat) → BL ps → List Blk
  | [], _ => []
  | p :: ps, x => p.inst x.1 :: instB ps x.2

def getB : (ps : List BPat) → List Blk → Option (BL ps)
  | [], [] => some ()
  | p :: ps, v :: vs => match p.get v with
    | some x => match getB ps vs with
      | some y => some (x, y)
      | none => none
    | none => none
  | _, _ => none

theorem getB_eq : ∀ {ps : List BPat} {vs : List Blk} {x : BL ps}, getB ps vs = some x → vs = instB ps x
  | [], [], _, _ => rfl
  | [], _ :: _, _, h => by simp [getB] at h
  | _ :: _, [], _, h => by simp [getB] at h
  | p :: ps, v :: vs, x, h => by
    simp only [getB] at h
    split at h
    · rename_i a ha
      split at h
      · rename_i b hb
        simp only [Option.some.injEq] at h; subst h
        simp only [instB]
        rw [BPat.get_eq ha, getB_eq hb]
      · cases h
    · cases h

def pcon {R : Type} (ps : List Pat) (bs : List BPat) (g : PL ps → BL bs → (SV → List Blk → Option R) → Option R) (other : Con R) : Con R := fun args hp K => match getP ps args with
  | some x => match getB bs hp with
    | some y => g x y K
    | none => other args hp K
  | none => other args hp K

def ncon {R : Type} : Con R := fun _ _ _ => none

section
variable {R : Type} {P : Program} {G : Nat} {H0 : Array Obj}

theorem ncon_ok (f : Nat) : FOk P G H0 f (ncon (R := R)) := fun _ _ _ _ h => by simp [ncon] at h

theorem pcon_ok (hm : P.follows .mixedOrders = true) {f : Nat} {fn : Func} {c : Code} (hf : P.funcs[f]? = some fn) (hb : fn.body = some c) {ps : List Pat} {bs : List BPat} {g : PL ps → BL bs → (SV → List Blk → Option R) → Option R} {other : Con R}
    (ho : FOk P G H0 f other) {E : Env R} (hE : EnvOk P G H0 E) (C : Cuts) (pb : Option (List (Option Ty))) (n : Nat) (h : ∀ x y K, xfun E C fn pb n (instP ps x) (instB bs y) K = g x y K) : FOk P G H0 f (pcon ps bs g other) := by
  intro args hp K r hr
  unfold pcon at hr
  split at hr
  · rename_i x hx
    split at hr
    · rename_i y hy
      have hr' := hr
      rw [← h x y K] at hr'
      obtain ⟨v, L, h1, h2, h3⟩ := xfun_ok hE hm hf hb hr'
      refine ⟨v, L, h1, fun K' => ?_, ?_⟩
      · unfold pcon
        rw [hx, hy]
        exact (h x y K').symm.trans (h2 K')
      · obtain rfl := getB_eq hy
        exact ⟨h3.1, fun w I ρ vs hm hvs => h3.2 w I ρ vs hm (getP_le hx w I ρ _ hvs)⟩
    · rename_i hy
      obtain ⟨v, L, h1, h2, h3⟩ := ho args hp K r hr
      exact ⟨v, L, h1, fun K' => by unfold pcon; rw [hx, hy]; exact h2 K', h3⟩
  · rename_i hx
    obtain ⟨v, L, h1, h2, h3⟩ := ho args hp K r hr
    exact ⟨v, L, h1, fun K' => by unfold pcon; rw [hx]; exact h2 K', h3⟩

theorem pcon_none {f : Nat} {ps : List Pat} {bs : List BPat} {g : PL ps → BL bs → (SV → List Blk → Option R) → Option R} {other : Con R}
    (hg : ∀ x y K, g x y K = none) (ho : FOk P G H0 f other) : FOk P G H0 f (pcon ps bs g other) := by
  intro args hp K r hr
  unfold pcon at hr
  split at hr
  · rename_i x hx
    split at hr
    · rw [hg] at hr; cases hr
    · rename_i hy
      obtain ⟨v, L, h1, h2, h3⟩ := ho args hp K r hr
      exact ⟨v, L, h1, fun K' => by unfold pcon; rw [hx, hy]; exact h2 K', h3⟩
  · rename_i hx
    obtain ⟨v, L, h1, h2, h3⟩ := ho args hp K r hr
    exact ⟨v, L, h1, fun K' => by unfold pcon; rw [hx]; exact h2 K', h3⟩

def iter {S : Type} (step : (S → Option R) → S → Option R) : Nat → S → Option R
  | 0, _ => none
  | n + 1, s => step (iter step n) s

theorem run_seg {S : Type} {E : Env R} {C : Cuts} {n0 : Nat} {fin : List SV → List Blk → Option R} (todo : S → List Item) (fr : S → List SV) (hp : S → List Blk) (step : (S → Option R) → S → Option R)
    (h : ∀ (call : List Item → List SV → List Blk → Option R) (s : S), xgo E C n0 call fin DEEP true (todo s) (fr s) (hp s) = step (fun s' => call (todo s') (fr s') (hp s')) s) :
    ∀ n s, xrun E C n0 fin n (todo s) (fr s) (hp s) = iter step n s
  | 0, _ => rfl
  | n + 1, s => by
    rw [xrun, h, iter]
    exact congrArg (fun q => step q s) (funext fun s' => run_seg todo fr hp step h n s')
end
end Go.AM
set_option linter.unusedSimpArgs false
set_option linter.unusedVariables false
namespace Go.AM
open Go.RowKit

def scal : Ty → Bool
  | .int _ | .bool | .str => true
  | _ => false

def valOf : (t : Ty) → t.D → Value
  | .int k, n => .int k n
  | .bool, b => .bool b
  | .str, s => .string ⟨List.toArray s⟩
  | _, _ => .bool false

@[reducible] def pats (Ts : List Ty) : List Pat := Ts.map fun t => .p (.dat t)

def vals : (Ts : List Ty) → PL (pats Ts) → List Value
  | [], _ => []
  | t :: ts, x => valOf t x.1 :: vals ts x.2

theorem scal_fr {t : Ty} (hs : scal t = true) {x : t.D} {w : World} {I : Nat → Prop} {ρ : Nat → Option Info} {y : Value} (h : FR w I ρ (svD t x) y) : y = valOf t x := by
  cases t <;> simp [scal] at hs
  · simp only [svD, Ty.isAgg] at h; rw [FR, PR] at h; simpa [valOf] using h
  · simp only [svD, Ty.isAgg] at h; rw [FR, PR] at h; simpa [valOf] using h
  · simp only [svD, Ty.isAgg] at h; rw [FR, PR] at h; simpa [valOf] using h

theorem vals_frs {w : World} {I : Nat → Prop} {ρ : Nat → Option Info} : ∀ {Ts : List Ty} (_ : Ts.all scal = true) {x : PL (pats Ts)} {vs : List Value}, FRs w I ρ (instP (pats Ts) x) vs → vs = vals Ts x
  | [], _, _, vs, h => by
    have h' : FRs w I ρ [] vs := h
    simpa [FRs, vals] using h'
  | t :: ts, hs, x, vs, h => by
    simp only [List.all_cons, Bool.and_eq_true] at hs
    have h' : FRs w I ρ (svD t x.1 :: instP (pats ts) x.2) vs := h
    rw [FRs] at h'
    obtain ⟨y, ys, rfl, h1, h2⟩ := h'
    rw [vals, scal_fr hs.1 h1, vals_frs hs.2 h2]

section
variable {R : Type} {P : Program} {G : Nat} {H0 : Array Obj}

theorem Mem.below {w w' : World} {I : Nat → Prop} {ρ : Nat → Option Info} (h : Mem G H0 [] w I ρ) (hb : Below w.heap.size w w') : Mem G H0 [] w' I ρ where
  dom := h.dom
  real := {
    blk := fun i => by
      have : blkOf [] i = .dead := by simp [blkOf]
      rw [this]; rw [BR]; trivial
    inj := fun i j x y b hi => by simp [blkOf] at hi
    own := fun b hb' => by obtain ⟨i, x, hi, _⟩ := hb'; simp [blkOf] at hi
    imm := fun b hi => Nat.lt_of_lt_of_le (h.real.imm b hi) hb.size
    glob := fun b hg => (hb.block b (Nat.lt_of_lt_of_le hg h.real.gsz)).trans (h.real.glob b hg)
    gsz := Nat.le_trans h.real.gsz hb.size }

theorem Chain.below {w w' : World} {I : Nat → Prop} {O O' : Nat → Prop} (hI : ∀ b, I b → b < w.heap.size) (hO : ∀ b, O' b → O b) (hb : Below w.heap.size w w') : Chain w I O w' I O' where
  stay := fun b h => ⟨h, hb.block b (hI b h)⟩
  size := hb.size
  frame := fun b h _ => hb.block b h
  own := fun b h => .inl (hO b h)
  pubd := fun b h => .inl h
  os := hb.os
  tape := hb.tape
  output := hb.output

theorem FOk.of_calls {f : Nat} (Ts : List Ty) (hs : Ts.all scal = true) (pre : PL (pats Ts) → Bool) (v : PL (pats Ts) → SV) (x : PL (pats Ts) → Value)
    (hfr : ∀ a w I ρ, FR w I ρ (v a) (x a)) (h : ∀ a, pre a = true → ∀ w I ρ, Mem G H0 [] w I ρ → Calls P f (vals Ts a).toArray w fun e w' => e = .returned (x a) ∧ Below w.heap.size w w')
    {other : Con R} (ho : FOk P G H0 f other) : FOk P G H0 f (pcon (pats Ts) [] (fun a _ K => bif pre a then K (v a) [] else none) other) := by
  intro args hp K r hr
  unfold pcon at hr
  split at hr
  · rename_i a ha
    split at hr
    · rename_i y hy
      cases hp' : pre a with
      | false => simp only [hp', cond_false] at hr; cases hr
      | true =>
        simp only [hp', cond_true] at hr
        refine ⟨v a, [], hr, fun K' => by unfold pcon; rw [ha, hy]; simp only [hp', cond_true], ?_, ?_⟩
        · have := getB_eq hy; subst this; simp [instB]
        · obtain rfl := getB_eq hy
          intro w I ρ vs hm hvs
          have hv := vals_frs hs (getP_le ha w I ρ _ hvs)
          have hv' : vs = (vals Ts a).toArray := by rw [← hv]
          rw [hv']
          refine (h a hp' w I ρ hm).mono ?_
          rintro e w' ⟨rfl, hb⟩
          exact ⟨x a, I, ρ, rfl, hfr a _ _ _, hm.below hb, Keeps.refl _ _, Chain.below (fun b hi => hm.real.imm b hi) (fun b hb => hb) hb⟩
    · rename_i hy
      obtain ⟨v', L, h1, h2, h3⟩ := ho args hp K r hr
      exact ⟨v', L, h1, fun K' => by unfold pcon; rw [ha, hy]; exact h2 K', h3⟩
  · rename_i ha
    obtain ⟨v', L, h1, h2, h3⟩ := ho args hp K r hr
    exact ⟨v', L, h1, fun K' => by unfold pcon; rw [ha]; exact h2 K', h3⟩
end
end Go.AM
