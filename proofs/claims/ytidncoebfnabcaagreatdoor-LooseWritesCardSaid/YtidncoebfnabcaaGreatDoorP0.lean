/- The pure law, part one: names, digits, bits, the fixed tables. -/
import Derived.Test.YtidncoebfnabcaaGreatDoorR
import Derived.Lib.ItoaNum
import Derived.Lib.EndianBits
set_option linter.unusedVariables false
set_option linter.unusedSimpArgs false
namespace Go.Proofs.YtidncoebfnabcaaGreatDoor
open Go.AM

/-- For every fuel that is large enough, `f` hands `res` on. -/
def Ev {κ : Type → Type} (f : ∀ R, Nat → κ R → Option R) (res : ∀ R, κ R → Option R) : Prop := ∃ N, ∀ m, N ≤ m → ∀ R K, f R m K = res R K
def Lp {κ : Type → Type} {S : Type} (step : ∀ R, Nat → κ R → (S → Option R) → S → Option R) (s : S) (res : ∀ R, κ R → Option R) : Prop :=
  ∃ N, ∀ m n, N ≤ m → N ≤ n → ∀ R K, iter (step R m K) n s = res R K

section
variable {κ : Type → Type} {S : Type} {step : ∀ R, Nat → κ R → (S → Option R) → S → Option R} {s s' : S} {res : ∀ R, κ R → Option R}
theorem Lp.ev (h : Lp step s res) : Ev (fun R m K => iter (step R m K) m s) res := by
  obtain ⟨N, h⟩ := h
  exact ⟨N, fun m hm R K => h m m hm hm R K⟩
theorem Lp.next (s' : S) (h : ∃ N, ∀ m, N ≤ m → ∀ R K call, step R m K call s = call s') (hl : Lp step s' res) : Lp step s res := by
  obtain ⟨N, h⟩ := h
  obtain ⟨N', h'⟩ := hl
  refine ⟨N + N' + 1, fun m n hm hn R K => ?_⟩
  obtain ⟨n, rfl⟩ : ∃ k, n = k + 1 := ⟨n - 1, by omega⟩
  show step R m K _ s = _
  rw [h m (by omega), h' m n (by omega) (by omega)]
theorem Lp.ret (h : ∃ N, ∀ m, N ≤ m → ∀ R K call, step R m K call s = res R K) : Lp step s res := by
  obtain ⟨N, h⟩ := h
  refine ⟨N + 1, fun m n hm hn R K => ?_⟩
  obtain ⟨n, rfl⟩ : ∃ k, n = k + 1 := ⟨n - 1, by omega⟩
  exact h m (by omega) R K _
theorem Lp.next0 (s' : S) (h : ∀ m R K call, step R m K call s = call s') (hl : Lp step s' res) : Lp step s res := .next s' ⟨0, fun m _ => h m⟩ hl
theorem Lp.ret0 (h : ∀ m R K call, step R m K call s = res R K) : Lp step s res := .ret ⟨0, fun m _ => h m⟩
end

theorem dt {p : Prop} [Decidable p] (h : p) : decide p = true := decide_eq_true h
theorem df {p : Prop} [Decidable p] (h : ¬ p) : decide p = false := decide_eq_false h
theorem dl {n : Nat} (h : n ≤ 140737488351232) : decide (n ≤ LIM) = true := decide_eq_true h
theorem inB_t {i : Int} {n : Nat} (h : 0 ≤ i ∧ i < (n : Int)) : inB i n = true := by simp [inB, h]
theorem leB_t {i : Int} {n : Nat} (h : 0 ≤ i ∧ i ≤ (n : Int)) : leB i n = true := by simp [leB, h]
theorem w64 {n : Int} (h : -9223372036854775808 ≤ n ∧ n ≤ 9223372036854775807) : IntKind.wrap .i64 n = n := by rw [IntKind.wrap_i64]; omega
theorem w8 {n : Int} (h : 0 ≤ n ∧ n < 256) : IntKind.wrap .u8 n = n := by rw [IntKind.wrap_u8]; omega
theorem w32 {n : Int} (h : 0 ≤ n ∧ n < 4294967296) : IntKind.wrap .u32 n = n := by rw [IntKind.wrap_u32]; omega
theorem wu64 {n : Int} (h : 0 ≤ n ∧ n < 18446744073709551616) : IntKind.wrap .u64 n = n := by rw [IntKind.wrap_u64]; omega

theorem SS : (∀ {p : Prop} [Decidable p], p → decide p = true) ∧ (∀ {p : Prop} [Decidable p], ¬ p → decide p = false) ∧ (∀ {i : Int} {n : Nat}, 0 ≤ i ∧ i < (n : Int) → inB i n = true) ∧
  (∀ {i : Int} {n : Nat}, 0 ≤ i ∧ i ≤ (n : Int) → leB i n = true) ∧ (∀ {n : Int}, -9223372036854775808 ≤ n ∧ n ≤ 9223372036854775807 → IntKind.wrap .i64 n = n) ∧ (∀ {n : Nat}, n ≤ 140737488351232 → decide (n ≤ LIM) = true) ∧
  (∀ {α : Type} {a b : List α}, (a ++ b).length = a.length + b.length) ∧ (∀ {α : Type} {a : α} {l : List α}, (a :: l).length = l.length + 1) ∧ (∀ {α : Type}, ([] : List α).length = 0) ∧ (∀ {α β : Type} {f : α → β} {l : List α}, (l.map f).length = l.length) ∧
  (∀ {α : Type} {i : Nat} {l : List α}, (l.take i).length = min i l.length) ∧ (∀ {α : Type} {i : Nat} {l : List α}, (l.drop i).length = l.length - i) ∧ (∀ {α : Type} {n : Nat} {a : α}, (List.replicate n a).length = n) ∧
  (∀ {α : Type} (a b : α), (bif true then a else b) = a) ∧ (∀ {α : Type} (a b : α), (bif false then a else b) = b) ∧ (!true) = false ∧ (!false) = true ∧ (∀ b, (b && true) = b) ∧ (∀ b, (true && b) = b) ∧ (∀ b, (b && false) = false) ∧ (∀ b, (false && b) = false) ∧
  (∀ n : Nat, (n : Int).toNat = n) ∧ (∀ {α : Type} {l : List α} {i : Nat} {a : α}, (l.set i a).length = l.length) ∧
  (∀ {h : Decidable True}, @decide True h = true) ∧ (∀ {h : Decidable False}, @decide False h = false) ∧ (∀ {α : Type} {h : Decidable True} (a b : α), @ite α True h a b = a) ∧ (∀ {α : Type} {h : Decidable False} (a b : α), @ite α False h a b = b) :=
  ⟨fun h => dt h, fun h => df h, fun h => inB_t h, fun h => leB_t h, fun h => w64 h, fun h => dl h, List.length_append, List.length_cons, List.length_nil, List.length_map _, List.length_take, List.length_drop, List.length_replicate, fun _ _ => rfl, fun _ _ => rfl, rfl, rfl, Bool.and_true, Bool.true_and, Bool.and_false, Bool.false_and, Int.toNat_natCast, List.length_set, decide_true _, decide_false _, fun _ _ => if_pos trivial, fun _ _ => if_neg not_false⟩

/-! ### Group A -/
def name (k : Int) : List UInt8 := if k = 1 then [99, 111, 109, 109, 105, 116] else if k = 2 then [116, 114, 101, 101] else if k = 3 then [98, 108, 111, 98] else if k = 4 then [116, 97, 103] else []
def check (k : Int) (d : List UInt8) : Int := if name k = [] then 10 else if 65000 < (d.length : Int) then 2 else 0
theorem name_len (k : Int) : (name k).length ≤ 6 := by unfold name; repeat' split <;> try decide
theorem name_ne (k : Int) : name k ≠ [] ↔ 1 ≤ k ∧ k ≤ 4 := by
  unfold name; repeat' split
  all_goals first | (simp; omega) | simp

theorem f40_ev (k : Int) : Ev (fun R m K => f40 m k K) (fun R K => K (name k)) := Lp.ev (step := fun R m K => f40.step m K) <| .ret0 fun m R K call => by
  simp only [f40.step, name, Bool.cond_decide]
  repeat' split <;> try rfl
theorem name_out {k : Int} (h : k < 1 ∨ 4 < k) : name k = [] := by
  have := name_ne k
  by_cases e : name k = []
  · exact e
  · have := this.1 e; omega
theorem f22_ev (k : Int) : Ev (fun R m K => f22 m k K) (fun R K => K (name k)) := Lp.ev (step := fun R m K => f22.step m K) <| .ret0 fun m R K call => by
  simp only [f22.step]
  by_cases h1 : k < 1
  · simp (disch := omega) only [SS, name_out (.inl h1)]
  by_cases h4 : 4 < k
  · simp (disch := omega) only [SS, name_out (.inr h4)]
  obtain rfl | rfl | rfl | rfl : k = 1 ∨ k = 2 ∨ k = 3 ∨ k = 4 := by omega
  all_goals rfl
theorem f39_ev (k : Int) (d : List UInt8) : Ev (fun R m K => f39 m k d K) (fun R K => K (check k d)) := Lp.ev (step := fun R m K => f39.step m K) <| .ret <| by
  obtain ⟨N, h⟩ := f40_ev k
  refine ⟨N, fun m hm R K call => ?_⟩
  simp (disch := omega) only [SS, f39.step, h, check, Bool.cond_decide]
  repeat' split <;> try rfl
theorem f6_ev (k : Int) (d : List UInt8) : Ev (fun R m K => f6 m k d K) (fun R K => K (check k d)) := Lp.ev (step := fun R m K => f6.step m K) <| .ret <| by
  obtain ⟨N, h⟩ := f22_ev k
  refine ⟨N, fun m hm R K call => ?_⟩
  simp (disch := omega) only [SS, f6.step, h, check, Bool.cond_decide]
  repeat' split <;> try rfl

/-! #### Digits -/
theorem tdv {a b : Int} (h : 0 ≤ a) : a.tdiv b = a / b := Int.tdiv_eq_ediv_of_nonneg h
theorem tmd {a b : Int} (h : 0 ≤ a) : a.tmod b = a % b := Int.tmod_eq_emod_of_nonneg h
theorem fdv {a b : Int} (h : 0 ≤ b) : a.fdiv b = a / b := Int.fdiv_eq_ediv_of_nonneg a h
theorem dig10 : ∀ a, a < 10 → List.drop a (List.take (a + 1) ([48, 49, 50, 51, 52, 53, 54, 55, 56, 57] : List UInt8)) = [UInt8.ofNat (48 + a)] := by decide
theorem dd_len : ∀ (d n : Nat), n < 10 ^ (d + 1) → (Lib.decDigits n).length ≤ d + 1
  | 0, n, h => by rw [Lib.decDigits, dif_pos (by omega)]; simp
  | d + 1, n, h => by
    rw [Lib.decDigits]
    split
    · simp
    · rw [Nat.pow_succ] at h
      have := dd_len d (n / 10) (by omega)
      simp; omega
theorem f29_go : ∀ (d n : Nat), n < 10 ^ (d + 1) → n < 1000000000000000000 → ∀ m, 2 ≤ m → ∀ R (K : List UInt8 → Option R), f29.go m (d + 1) (n : Int) K = K (Lib.decDigits n) := by
  intro d
  induction d with
  | zero =>
    intro n h h' m hm R K
    obtain ⟨m, rfl⟩ : ∃ k, m = k + 2 := ⟨m - 2, by omega⟩
    simp only [f29.go, iter, f29.step]
    have e : ((n : Int) + 1).toNat = n + 1 := by omega
    simp (disch := omega) only [SS, e, dig10 n (by omega)]
    rw [Lib.decDigits, dif_pos (by omega)]
  | succ d ih =>
    intro n h h' m hm R K
    obtain ⟨m, rfl⟩ : ∃ k, m = k + 2 := ⟨m - 2, by omega⟩
    rw [f29.go]
    simp only [iter, f29.step]
    rw [Lib.decDigits]
    split
    · have e : ((n : Int) + 1).toNat = n + 1 := by omega
      simp (disch := omega) only [SS, e, dig10 n (by omega)]
    · rw [Nat.pow_succ] at h
      have e1 : ((n : Int) / 10) = ((n / 10 : Nat) : Int) := by omega
      have e2 : ((n : Int) % 10) = ((n % 10 : Nat) : Int) := by omega
      have e3 : (((n % 10 : Nat) : Int) + 1).toNat = n % 10 + 1 := by omega
      have h3 := dd_len d (n / 10) (by omega)
      have h4 := dd_len 17 (n / 10) (by omega)
      simp (disch := omega) only [SS, tdv, tmd, e1, e2, ih (n / 10) (by omega) (by omega) (m + 2) (by omega), e3, dig10 (n % 10) (by omega)]
theorem f29_ev (n : Nat) (h : n < 1000000000000000000) : Ev (fun R m K => f29 m (n : Int) K) (fun R K => K (Lib.decDigits n)) :=
  ⟨18, fun m hm R K => by
    obtain ⟨d, rfl⟩ : ∃ k, m = k + 1 := ⟨m - 1, by omega⟩
    have : 10 ^ 18 ≤ 10 ^ (d + 1) := Nat.pow_le_pow_right (by omega) (by omega)
    exact f29_go d n (Nat.lt_of_lt_of_le h this) h _ (by omega) R K⟩
theorem x41_eq {R : Type} (n : Nat) (h : n < 1000000000000000000) (K : List UInt8 → Option R) : x41 (n : Int) K = K (Lib.decDigits n) := by
  have e : Lib.itoa (n : Int) = Lib.decDigits n := by unfold Lib.itoa; rw [if_neg (by omega)]; simp
  simp (disch := omega) only [SS, x41, e]

/-! #### Text -/
def text (k : Int) (d : List UInt8) : List UInt8 := name k ++ [32] ++ Lib.decDigits d.length ++ [0] ++ d
theorem f11_ev (k : Int) (d : List UInt8) (hd : d.length ≤ 1000000) : Ev (fun R m K => f11 m k d K) (fun R K => K (text k d)) := Lp.ev (step := fun R m K => f11.step m K) <| .ret <| by
  obtain ⟨N, h⟩ := f22_ev k
  obtain ⟨N', h'⟩ := f29_ev d.length (by omega)
  dsimp only at h h'
  refine ⟨N + N', fun m hm R K call => ?_⟩
  have := name_len k
  have := dd_len 6 d.length (by omega)
  simp (disch := omega) only [SS, f11.step, h, h', text]
theorem f18_ev (k : Int) (d : List UInt8) (hd : d.length ≤ 1000000) : Ev (fun R m K => f18 m k d K) (fun R K => if check k d = 0 then K (text k d) 0 else K [] (check k d)) := Lp.ev (step := fun R m K => f18.step m K) <| .ret <| by
  obtain ⟨N, h⟩ := f39_ev k d
  obtain ⟨N', h'⟩ := f40_ev k
  dsimp only at h h'
  refine ⟨N + N', fun m hm R K call => ?_⟩
  have := name_len k
  have := dd_len 6 d.length (by omega)
  by_cases hc : check k d = 0
  · simp (disch := omega) only [SS, f18.step, h, h', hc, text, x41_eq d.length (by omega), decide_true, if_true]
  · simp (disch := omega) only [SS, f18.step, h, h', hc, decide_false, if_false]

/-! #### Hexadecimal digits -/
def hd (n : Nat) : UInt8 := ([48, 49, 50, 51, 52, 53, 54, 55, 56, 57, 97, 98, 99, 100, 101, 102] : List UInt8).getD n 0
def hexs (l : List UInt8) : List UInt8 := l.flatMap fun b => [hd (b.toNat / 16), hd (b.toNat % 16)]
theorem hexs_cons (b : UInt8) (l : List UInt8) : hexs (b :: l) = [hd (b.toNat / 16), hd (b.toNat % 16)] ++ hexs l := rfl
theorem hexs_append (a b : List UInt8) : hexs (a ++ b) = hexs a ++ hexs b := by simp [hexs]
theorem hexs_length (l : List UInt8) : (hexs l).length = 2 * l.length := by
  induction l with
  | nil => rfl
  | cons b l ih => rw [hexs_cons]; simp [ih]; omega
theorem dig16 : ∀ a, a < 16 → List.drop a (List.take (a + 1) ([48, 49, 50, 51, 52, 53, 54, 55, 56, 57, 97, 98, 99, 100, 101, 102] : List UInt8)) = [hd a] := by decide
theorem getD_mid {α : Type} (a : List α) (b : α) (l : List α) (d : α) : List.getD (a ++ b :: l) a.length d = b := by simp
theorem f23_lp : ∀ (l pre acc : List UInt8), acc.length ≤ 1000000 → pre.length + l.length ≤ 1000 → acc.length ≤ 2 * pre.length → Lp (fun R m K => f23.step m K) (.s1 (pre ++ l) acc (pre.length : Int)) (fun R K => K (acc ++ hexs l))
  | [], pre, acc, ha, hl, hb => .ret0 fun m R K call => by
    simp (disch := omega) only [SS, f23.step, hexs, List.flatMap_nil, List.append_nil]
  | b :: l, pre, acc, ha, hl, hb => .next0 (.s1 (pre ++ [b] ++ l) (acc ++ [hd (b.toNat / 16), hd (b.toNat % 16)]) ((pre ++ [b]).length : Int)) (fun m R K call => by
      have hb' := b.toNat_lt
      have e1 : ((b.toNat : Int) / 16) = ((b.toNat / 16 : Nat) : Int) := by omega
      have e2 : ((b.toNat : Int) % 16) = ((b.toNat % 16 : Nat) : Int) := by omega
      have e3 : (((b.toNat / 16 : Nat) : Int) + 1).toNat = b.toNat / 16 + 1 := by omega
      have e4 : (((b.toNat % 16 : Nat) : Int) + 1).toNat = b.toNat % 16 + 1 := by omega
      simp only [List.length_cons] at hl
      simp (disch := omega) only [SS, f23.step, getD_mid, tdv, tmd, e1, e2, e3, e4, w8, dig16 (b.toNat / 16) (by omega), dig16 (b.toNat % 16) (by omega)]
      simp) (by
      rw [hexs_cons, ← List.append_assoc]
      simp only [List.length_cons] at hl
      exact f23_lp l (pre ++ [b]) _ (by simp; omega) (by simp; omega) (by simp; omega))
theorem f23_ev (l : List UInt8) (h : l.length ≤ 1000) : Ev (fun R m K => f23 m l K) (fun R K => K (hexs l)) := Lp.ev (step := fun R m K => f23.step m K) <|
  .next0 (.s1 l [] 0) (fun m R K call => rfl) (by simpa using f23_lp l [] [] (by simp) (by simpa using h) (by simp))
theorem bytesOf_map (l : List UInt8) : bytesOf (l.map fun b => ((UInt8.toNat b : Nat) : Int)) = l := by
  induction l with
  | nil => rfl
  | cons b l ih => simp only [bytesOf, List.map_cons, Int.toNat_natCast, UInt8.ofNat_toNat] at ih ⊢; rw [ih]
theorem and15 : ∀ n, n < 256 → ibits .and .u8 ((n : Nat) : Int) 15 = ((n % 16 : Nat) : Int) := by decide +kernel
abbrev ints (l : List UInt8) : List Int := l.map fun b => ((UInt8.toNat b : Nat) : Int)
theorem f42_lp : ∀ (l pre acc : List UInt8), pre.length + l.length ≤ 1000 → acc.length ≤ 2 * pre.length → Lp (fun R m K => f42.step m K) (.s1 (pre ++ l) ((pre ++ l).length : Int) (pre.length : Int) (ints acc)) (fun R K => K (acc ++ hexs l))
  | [], pre, acc, hl, hb => .ret0 fun m R K call => by
    simp (disch := omega) only [SS, f42.step, hexs, List.flatMap_nil, List.append_nil, bytesOf_map]
  | b :: l, pre, acc, hl, hb => .next0 (.s1 (pre ++ [b] ++ l) ((pre ++ [b] ++ l).length : Int) ((pre ++ [b]).length : Int) (ints (acc ++ [hd (b.toNat / 16), hd (b.toNat % 16)]))) (fun m R K call => by
      have hb' := b.toNat_lt
      have e1 : ((b.toNat : Int) / 16) = ((b.toNat / 16 : Nat) : Int) := by omega
      simp only [List.length_cons] at hl
      simp (disch := omega) only [SS, f42.step, getD_mid, fdv, e1, and15 b.toNat (by omega)]
      simp [hd, ints, Int.add_assoc, Int.add_comm, Int.add_left_comm]) (by
      rw [hexs_cons, ← List.append_assoc]
      simp only [List.length_cons] at hl
      exact f42_lp l (pre ++ [b]) _ (by simp; omega) (by simp; omega))
theorem f42_ev (l : List UInt8) (h : l.length ≤ 1000) : Ev (fun R m K => f42 m l K) (fun R K => K (hexs l)) := Lp.ev (step := fun R m K => f42.step m K) <|
  .next0 (.s1 l (l.length : Int) 0 []) (fun m R K call => rfl) (by simpa using f42_lp l [] [] (by simpa using h) (by simp))

theorem hdd : ∀ n, n < 16 → (if 48 ≤ (hd n).toNat then (if (hd n).toNat ≤ 57 then (hd n).toNat - 48 else if 97 ≤ (hd n).toNat then if (hd n).toNat ≤ 102 then (hd n).toNat - 97 + 10 else 99 else 99) else 99) = n ∧ 48 ≤ (hd n).toNat ∧ ((hd n).toNat ≤ 57 ∨ 97 ≤ (hd n).toNat ∧ (hd n).toNat ≤ 102) := by decide
theorem f122_ev : ∃ N, ∀ n, n < 16 → ∀ m, N ≤ m → ∀ R (K : Int → Option R), f122 m ((UInt8.toNat (hd n) : Nat) : Int) K = K (n : Int) := by
  refine ⟨1, fun n hn m hm R K => ?_⟩
  obtain ⟨m, rfl⟩ : ∃ k, m = k + 1 := ⟨m - 1, by omega⟩
  obtain ⟨h1, h2, h3⟩ := hdd n hn
  rw [if_pos h2] at h1
  simp only [f122, iter, f122.step]
  by_cases h : (hd n).toNat ≤ 57
  · rw [if_pos h] at h1
    simp (disch := omega) only [SS, w8]
    congr 1; omega
  · rw [if_neg h, if_pos (by omega), if_pos (by omega)] at h1
    simp (disch := omega) only [SS, w8]
    congr 1; omega
theorem nib : ∀ n, n < 256 → IntKind.wrap .u8 (ibits .or .i64 (((n / 16 : Nat) : Int) * 16) ((n % 16 : Nat) : Int)) = (n : Int) := by decide +kernel
theorem f79_lp : ∀ (l pre : List UInt8), pre.length + l.length ≤ 1000 → Lp (fun R m K => f79.step m K) (.s1 (hexs (pre ++ l)) (2 * (pre.length : Int)) (ints pre)) (fun R K => K (pre ++ l) true)
  | [], pre, hl => .ret0 fun m R K call => by
    simp (disch := omega) only [SS, f79.step, List.append_nil, hexs_length, bytesOf_map, tmd]
  | b :: l, pre, hl => .next (.s1 (hexs (pre ++ [b] ++ l)) (2 * ((pre ++ [b]).length : Int)) (ints (pre ++ [b]))) (by
      obtain ⟨N, h⟩ := f122_ev
      refine ⟨N, fun m hm R K call => ?_⟩
      have hb' := b.toNat_lt
      have e0 : hexs (pre ++ b :: l) = hexs pre ++ hd (b.toNat / 16) :: hd (b.toNat % 16) :: hexs l := by rw [hexs_append, hexs_cons]; rfl
      have e1 : (2 * (pre.length : Int)).toNat = (hexs pre).length := by rw [hexs_length]; omega
      have e2 : (2 * (pre.length : Int) + 1).toNat = (hexs pre ++ [hd (b.toNat / 16)]).length := by simp [hexs_length]; omega
      have e3 : List.getD (hexs pre ++ hd (b.toNat / 16) :: hd (b.toNat % 16) :: hexs l) (hexs pre ++ [hd (b.toNat / 16)]).length 0 = hd (b.toNat % 16) := by
        rw [List.append_cons]; exact getD_mid _ _ _ _
      have e4 := hexs_length pre
      have e5 := hexs_length l
      simp only [List.length_cons] at hl
      simp only [f79.step, e0]
      simp (disch := omega) only [SS, e1, getD_mid, h]
      rw [e2, e3]
      simp (disch := omega) only [SS, h, nib b.toNat (by omega)]
      simp [ints, hexs_append, hexs_cons, Int.mul_add]) (by
      simp only [List.length_cons] at hl
      have := f79_lp l (pre ++ [b]) (by simp; omega)
      simpa using this)
theorem f79_ev (l : List UInt8) (h : l.length ≤ 1000) : Ev (fun R m K => f79 m (hexs l) K) (fun R K => K l true) := Lp.ev (step := fun R m K => f79.step m K) <|
  .next0 (.s1 (hexs l) 0 []) (fun m R K call => rfl) (by simpa using f79_lp l [] (by simpa using h))
theorem f44_ev (l : List UInt8) (h : l.length ≤ 1000) : Ev (fun R m K => f44 m (hexs l) K) (fun R K => K (decide (l.length = 20))) := Lp.ev (step := fun R m K => f44.step m K) <| .ret <| by
  obtain ⟨N, h⟩ := f79_ev l h
  refine ⟨N, fun m hm R K call => ?_⟩
  simp (disch := omega) only [SS, f44.step, h, hexs_length]
  congr 2; simp; omega
def path (s : List UInt8) : List UInt8 := [111, 98, 106, 101, 99, 116, 115, 47] ++ s.take 2 ++ [47] ++ s.drop 2
theorem f20_ev (l : List UInt8) (h : l.length = 20) : Ev (fun R m K => f20 m (hexs l) K) (fun R K => K (path (hexs l)) 0) := Lp.ev (step := fun R m K => f20.step m K) <| .ret <| by
  obtain ⟨N, h'⟩ := f44_ev l (by omega)
  refine ⟨N, fun m hm R K call => ?_⟩
  have := hexs_length l
  simp (disch := omega) only [SS, f20.step, h', path]
theorem f20_bad (l : List UInt8) (h : l.length ≤ 19) : Ev (fun R m K => f20 m (hexs l) K) (fun R K => K [] 4) := Lp.ev (step := fun R m K => f20.step m K) <| .ret <| by
  obtain ⟨N, h'⟩ := f44_ev l (by omega)
  refine ⟨N, fun m hm R K call => ?_⟩
  simp (disch := omega) only [SS, f20.step, h']
theorem f10_ev (l : List UInt8) (h : l.length = 20) : Ev (fun R m K => f10 m (hexs l) K) (fun R K => K (path (hexs l))) := Lp.ev (step := fun R m K => f10.step m K) <| .ret0 fun m R K call => by
  have := hexs_length l
  simp (disch := omega) only [SS, f10.step, path]
theorem f7_ev : Ev (fun R m K => f7 m K) (fun R K => K true) := Lp.ev (step := fun R m K => f7.step m K) <| .ret <| by
  obtain ⟨N, h⟩ := f20_ev [0xe6, 0x9d, 0xe2, 0x9b, 0xb2, 0xd1, 0xd6, 0x43, 0x4b, 0x8b, 0x29, 0xae, 0x77, 0x5a, 0xd8, 0xc2, 0xe4, 0x8c, 0x53, 0x91] rfl
  obtain ⟨N', h'⟩ := f20_bad [0xe6] (by decide)
  refine ⟨N + N', fun m hm R K call => ?_⟩
  have e1 : ([101, 54, 57, 100, 101, 50, 57, 98, 98, 50, 100, 49, 100, 54, 52, 51, 52, 98, 56, 98, 50, 57, 97, 101, 55, 55, 53, 97, 100, 56, 99, 50, 101, 52, 56, 99, 53, 51, 57, 49] : List UInt8) = hexs [0xe6, 0x9d, 0xe2, 0x9b, 0xb2, 0xd1, 0xd6, 0x43, 0x4b, 0x8b, 0x29, 0xae, 0x77, 0x5a, 0xd8, 0xc2, 0xe4, 0x8c, 0x53, 0x91] := by decide +kernel
  have e2 : ([101, 54] : List UInt8) = hexs [0xe6] := by decide +kernel
  dsimp only at h h'
  simp only [f7.step, e1, e2]
  rw [h m (by omega), h' m (by omega)]
  rfl

/-! #### The files -/
theorem f4_ev (d : List UInt8) (n : Nat) : Ev (fun R m K => f4 m d (n : Int) K) (fun R K => K (d.take n)) := Lp.ev (step := fun R m K => f4.step m K) <| .ret0 fun m R K call => by
  by_cases h : (n : Int) < d.length
  · simp (disch := omega) only [SS, f4.step]
  · simp (disch := omega) only [SS, f4.step, List.take_of_length_le]
abbrev FileT := List UInt8 × List UInt8
theorem f35_ev (l : List FileT) (n : Nat) (hn : n ≤ 1000) : Ev (fun R m K => f35 m l (n : Int) K) (fun R K => K (l.take n)) := Lp.ev (step := fun R m K => f35.step m K) <| .ret0 fun m R K call => by
  by_cases h : (n : Int) < l.length
  · simp (disch := omega) only [SS, f35.step, List.nil_append]
  · simp (disch := omega) only [SS, f35.step, List.nil_append, List.take_of_length_le]
theorem f15_lp : ∀ (l pre : List FileT), pre.length + l.length ≤ 1000 → Lp (fun R m K => f15.step m K) (.s1 ((pre ++ l).length : Int) (pre.length : Int) (pre ++ l)) (fun R K => K (pre ++ l.map fun p => (p.1, p.2.take 400)))
  | [], pre, hl => .ret0 fun m R K call => by
    simp (disch := omega) only [SS, f15.step, List.append_nil, List.map_nil]
  | b :: l, pre, hl => .next (.s1 ((pre ++ [(b.1, b.2.take 400)] ++ l).length : Int) ((pre ++ [(b.1, b.2.take 400)]).length : Int) (pre ++ [(b.1, b.2.take 400)] ++ l)) (by
      obtain ⟨N, h⟩ := f4_ev b.2 400
      refine ⟨N, fun m hm R K call => ?_⟩
      simp only [List.length_cons] at hl
      have e : ((400 : Nat) : Int) = 400 := rfl
      rw [e] at h
      simp (disch := omega) only [SS, f15.step, getD_mid, h]
      simp [Int.add_assoc, Int.add_comm, Int.add_left_comm]) (by
      simp only [List.length_cons] at hl
      have := f15_lp l (pre ++ [(b.1, b.2.take 400)]) (by simp; omega)
      simpa using this)
def short (l : List FileT) : List FileT := (l.take 10).map fun p => (p.1, p.2.take 400)
theorem f15_ev (l : List FileT) : Ev (fun R m K => f15 m l 10 K) (fun R K => K (short l)) := Lp.ev (step := fun R m K => f15.step m K) <|
  .next (.s1 ((l.take 10).length : Int) 0 (l.take 10)) (by
    obtain ⟨N, h⟩ := f35_ev l 10 (by omega)
    exact ⟨N, fun m hm R K call => by simp only [f15.step]; exact h m hm R _⟩) (by simpa [short] using f15_lp (l.take 10) [] (by simp; omega))
end Go.Proofs.YtidncoebfnabcaaGreatDoor
namespace Go.Proofs.YtidncoebfnabcaaGreatDoor
open Go.AM

/-! ### Bits -/
def bitsOf : Nat → Nat → List Bool
  | 0, _ => []
  | k + 1, n => decide (n % 2 = 1) :: bitsOf k (n / 2)
def val : List Bool → Nat
  | [] => 0
  | b :: l => (if b then 1 else 0) + 2 * val l
def bb (l : List UInt8) : List Bool := l.flatMap fun b => bitsOf 8 b.toNat
theorem bitsOf_length : ∀ k n, (bitsOf k n).length = k
  | 0, _ => rfl
  | k + 1, n => by simp [bitsOf, bitsOf_length k]
theorem bb_nil : bb [] = [] := rfl
theorem bb_cons (b : UInt8) (l : List UInt8) : bb (b :: l) = bitsOf 8 b.toNat ++ bb l := rfl
theorem bb_append (a b : List UInt8) : bb (a ++ b) = bb a ++ bb b := by simp [bb]
theorem bb_length (l : List UInt8) : (bb l).length = 8 * l.length := by
  induction l with
  | nil => rfl
  | cons b l ih => rw [bb_cons]; simp [ih, bitsOf_length]; omega
theorem bitsOf_add : ∀ a b n, bitsOf (a + b) n = bitsOf a n ++ bitsOf b (n / 2 ^ a)
  | 0, b, n => by simp [bitsOf]
  | a + 1, b, n => by
    rw [Nat.add_right_comm, bitsOf, bitsOf, bitsOf_add a b (n / 2), Nat.div_div_eq_div_mul, Nat.pow_succ, Nat.mul_comm 2]; rfl
theorem bitsOf_mod : ∀ k n, bitsOf k (n % 2 ^ k) = bitsOf k n
  | 0, _ => rfl
  | k + 1, n => by
    rw [bitsOf, bitsOf, ← bitsOf_mod k (n / 2)]
    have h1 : n % 2 ^ (k + 1) / 2 = n / 2 % 2 ^ k := by rw [Nat.pow_succ, Nat.mul_comm, Nat.mod_mul_right_div_self]
    have h2 : n % 2 ^ (k + 1) % 2 = n % 2 := by rw [Nat.pow_succ]; exact Nat.mod_mul_left_mod _ _ _
    rw [h1, h2]
theorem bitsOf_join (c a n v : Nat) (h : a < 2 ^ c) : bitsOf (c + n) (a + v * 2 ^ c) = bitsOf c a ++ bitsOf n v := by
  have hp : 0 < 2 ^ c := Nat.pow_pos (by omega)
  rw [bitsOf_add, ← bitsOf_mod c (a + v * 2 ^ c), Nat.add_mul_mod_self_right, Nat.mod_eq_of_lt h, Nat.add_mul_div_right _ _ hp, Nat.div_eq_of_lt h, Nat.zero_add]
theorem val_lt : ∀ l, val l < 2 ^ l.length
  | [] => by decide
  | b :: l => by
    have := val_lt l
    rw [val, List.length_cons, Nat.pow_succ]
    split <;> omega
theorem val_bitsOf : ∀ k n, val (bitsOf k n) = n % 2 ^ k
  | 0, n => by simp [bitsOf, val, Nat.mod_one]
  | k + 1, n => by
    rw [bitsOf, val, val_bitsOf k, Nat.pow_succ, Nat.mul_comm (2 ^ k) 2, Nat.mod_mul]
    by_cases h : n % 2 = 1
    · simp [h]
    · have : n % 2 = 0 := by omega
      simp [this]
theorem bitsOf_val : ∀ l, bitsOf l.length (val l) = l
  | [] => rfl
  | b :: l => by
    rw [List.length_cons, bitsOf, val]
    have h := bitsOf_val l
    cases b
    · simp [h]
    · simp only [if_true]
      have e1 : (1 + 2 * val l) % 2 = 1 := by omega
      have e2 : (1 + 2 * val l) / 2 = val l := by omega
      rw [e1, e2, h]; rfl

/-! #### The reference's bits -/
theorem tb_eq : ∀ b, b < 256 → ∀ j, j < 8 → (decide (ibits .and .u8 (((b : Nat) : Int).fdiv (2 ^ (min j 8))) 1 = 1)) = decide (b / 2 ^ j % 2 = 1) := by decide +kernel
theorem f51_bit {κ : Type → Type} (data : List UInt8) (i j : Nat) (acc : List Bool) (hi : i < data.length) (hj : j < 8) (hn : acc.length ≤ 1000000) (m : Nat) (R : Type) (K : List Bool → Option R) (call : f51.St → Option R) :
    f51.step m K call (.s3 data (i : Int) (j : Int) acc) = call (.s3 data (i : Int) ((j + 1 : Nat) : Int) (acc ++ [decide ((data.getD i 0).toNat / 2 ^ j % 2 = 1)])) ∧
    f51.step m K call (.s2 data (i : Int) (j : Int) acc) = call (.s3 data (i : Int) ((j + 1 : Nat) : Int) (acc ++ [decide ((data.getD i 0).toNat / 2 ^ j % 2 = 1)])) := by
  have := (data.getD i 0).toNat_lt
  constructor
  · simp (disch := omega) only [SS, f51.step, tb_eq _ this j hj]
    rfl
  · simp (disch := omega) only [SS, f51.step, tb_eq _ this j hj]
    rfl
theorem f51_lp : ∀ (l pre : List UInt8), pre.length + l.length ≤ 10000 → Lp (fun R m K => f51.step m K) (.s4 (pre ++ l) (pre.length : Int) (bb pre)) (fun R K => K (bb (pre ++ l)))
  | [], pre, hl => .ret0 fun m R K call => by
    simp (disch := omega) only [SS, f51.step, List.append_nil]
  | b :: l, pre, hl => by
    have ih := f51_lp l (pre ++ [b]) (by simp at hl ⊢; omega)
    have hg : (pre ++ b :: l).getD pre.length 0 = b := by simp
    have hi : pre.length < (pre ++ b :: l).length := by simp
    have hL := bb_length pre
    simp only [List.length_cons] at hl
    refine .next0 (.s3 (pre ++ b :: l) (pre.length : Int) ((0 : Nat) : Int) (bb pre)) (fun m R K call => by simp (disch := omega) only [SS, f51.step]; rfl) ?_
    have st : ∀ (j : Nat) (acc : List Bool), j < 8 → acc.length ≤ 1000000 → Lp (fun R m K => f51.step m K) (.s3 (pre ++ b :: l) (pre.length : Int) ((j + 1 : Nat) : Int) (acc ++ [decide (b.toNat / 2 ^ j % 2 = 1)])) (fun R (K : List Bool → Option R) => K (bb (pre ++ b :: l))) → Lp (fun R m K => f51.step m K) (.s3 (pre ++ b :: l) (pre.length : Int) (j : Int) acc) (fun R (K : List Bool → Option R) => K (bb (pre ++ b :: l))) := by
      intro j acc hj ha h
      refine .next0 _ (fun m R K call => ?_) h
      have := (f51_bit (κ := fun R => R) (pre ++ b :: l) pre.length j acc hi hj ha m R K call).1
      rw [hg] at this
      exact this
    refine st 0 _ (by omega) (by omega) (st 1 _ (by omega) (by simp; omega) (st 2 _ (by omega) (by simp; omega) (st 3 _ (by omega) (by simp; omega) (st 4 _ (by omega) (by simp; omega) (st 5 _ (by omega) (by simp; omega) (st 6 _ (by omega) (by simp; omega) (st 7 _ (by omega) (by simp; omega) ?_)))))))
    have e : bb pre ++ [decide (b.toNat / 2 ^ 0 % 2 = 1)] ++ [decide (b.toNat / 2 ^ 1 % 2 = 1)] ++ [decide (b.toNat / 2 ^ 2 % 2 = 1)] ++ [decide (b.toNat / 2 ^ 3 % 2 = 1)] ++ [decide (b.toNat / 2 ^ 4 % 2 = 1)] ++ [decide (b.toNat / 2 ^ 5 % 2 = 1)] ++ [decide (b.toNat / 2 ^ 6 % 2 = 1)] ++ [decide (b.toNat / 2 ^ 7 % 2 = 1)] = bb (pre ++ [b]) := by
      rw [bb_append, bb_cons, bb_nil]
      simp [bitsOf, Nat.div_div_eq_div_mul]
    rw [e]
    have e2 : pre ++ b :: l = pre ++ [b] ++ l := by simp
    rw [e2]
    refine .next0 (.s4 (pre ++ [b] ++ l) ((pre ++ [b]).length : Int) (bb (pre ++ [b]))) (fun m R K call => by
      simp (disch := omega) only [SS, f51.step]
      simp) ih
theorem f51_ev (l : List UInt8) (h : l.length ≤ 10000) : Ev (fun R m K => f51 m l K) (fun R K => K (bb l)) := Lp.ev (step := fun R m K => f51.step m K) <| by
  cases l with
  | nil => exact .next0 (.s1 [] 0 []) (fun m R K call => rfl) (.ret0 fun m R K call => by simp (disch := omega) only [SS, f51.step]; simp [bb])
  | cons b l =>
    have ih := f51_lp (b :: l) [] (by simpa using h)
    have key : Lp (fun R m K => f51.step m K) (.s3 (b :: l) 0 0 []) (fun R (K : List Bool → Option R) => K (bb (b :: l))) := by
      obtain ⟨N, h⟩ := ih
      refine ⟨N, fun m n hm hn R K => ?_⟩
      have := h m (n + 1) hm (by omega) R K
      simp only [iter, f51.step] at this
      simpa [bb_nil] using this
    refine .next0 (.s1 (b :: l) 0 []) (fun m R K call => rfl) ?_
    refine .next0 (.s2 (b :: l) 0 0 []) (fun m R K call => by simp (disch := omega) only [SS, f51.step]) ?_
    obtain ⟨N, h⟩ := key
    refine ⟨N + 1, fun m n hm hn R K => ?_⟩
    have := h m n (by omega) (by omega) R K
    obtain ⟨n, rfl⟩ : ∃ k, n = k + 1 := ⟨n - 1, by omega⟩
    exact this

theorem f90_lp : ∀ (pre suf : List Bool), pre.length + suf.length ≤ 30 → Lp (fun R m K => f90.step m K) (.s1 (pre ++ suf) (val suf : Int) ((pre.length : Int) - 1)) (fun R K => K (val (pre ++ suf) : Int)) := by
  intro pre
  induction h : pre.length generalizing pre with
  | zero =>
    intro suf hs
    obtain rfl := List.eq_nil_of_length_eq_zero h
    exact .ret0 fun m R K call => by simp (disch := omega) only [SS, f90.step, List.nil_append]
  | succ n ih =>
    intro suf hs
    obtain ⟨pre, b, rfl⟩ : ∃ p b, pre = p ++ [b] := ⟨pre.dropLast, pre.getLast (by intro e; simp [e] at h), (List.dropLast_concat_getLast _).symm⟩
    have hn : pre.length = n := by simpa using h
    have hv : val (b :: suf) < 2 ^ 31 := Nat.lt_of_lt_of_le (val_lt _) (Nat.pow_le_pow_right (by omega) (by simp; omega))
    have hv' : val (b :: suf) = (if b then 1 else 0) + 2 * val suf := rfl
    have := ih pre hn (b :: suf) (by simp; omega)
    rw [List.append_assoc]
    refine .next0 _ (fun m R K call => ?_) this
    have e : (((n + 1 : Nat) : Int) - 1).toNat = pre.length := by omega
    have hg : (pre ++ ([b] ++ suf)).getD pre.length false = b := by simp
    simp (disch := omega) only [SS, f90.step, e, hg]
    cases b
    · simp only [cond_false, val] at hv hv' ⊢
      rw [w32 (by omega)]
      congr 2 <;> simp [val]
      all_goals omega
    · simp only [cond_true, val, if_true] at hv hv' ⊢
      rw [w32 (n := 2 * _) (by omega), w32 (by omega)]
      congr 2 <;> simp [val]
      all_goals omega
theorem f90_ev (l : List Bool) (h : l.length ≤ 30) : Ev (fun R m K => f90 m l K) (fun R K => K (val l : Int)) := Lp.ev (step := fun R m K => f90.step m K) <|
  .next0 (.s1 l 0 ((l.length : Int) - 1)) (fun m R K call => by simp (disch := omega) only [SS, f90.step]) (by simpa [val] using f90_lp l [] (by simpa using h))
theorem f58_ev (n : Nat) (h : n ≤ 1000000000) : Ev (fun R m K => f58 m (n : Int) K) (fun R K => K (((n + 7) / 8 * 8 : Nat) : Int)) := Lp.ev (step := fun R m K => f58.step m K) <| .ret0 fun m R K call => by
  simp (disch := omega) only [SS, f58.step, tdv]
  congr 1
theorem slice_mid {α : Type} (P V Z : List α) : List.drop P.length (List.take (P.length + V.length) (P ++ V ++ Z)) = V := by
  rw [← List.length_append, List.take_left, List.drop_left]
theorem f53v2_ev (P Z : List Bool) (n v : Nat) (lim : Int) (out : List Int) (hn : n ≤ 30) (hl : P.length + n + Z.length ≤ 10000000) :
    Ev (fun R m K => f53v2 m (n : Int) (P ++ bitsOf n v ++ Z) (P.length : Int) lim 0 out K) (fun R K => K ((v % 2 ^ n : Nat) : Int) (P ++ bitsOf n v ++ Z) ((P.length + n : Nat) : Int) lim 0 out) := Lp.ev (step := fun R m K => f53v2.step m K) <| .ret <| by
  obtain ⟨N, h⟩ := f90_ev (bitsOf n v) (by simpa [bitsOf_length] using hn)
  refine ⟨N, fun m hm R K call => ?_⟩
  have hb := bitsOf_length n v
  have e : ((P.length : Int) + (n : Int)).toNat = P.length + n := by omega
  have hs : List.drop P.length (List.take (P.length + n) (P ++ bitsOf n v ++ Z)) = bitsOf n v := by have := slice_mid P (bitsOf n v) Z; rwa [hb] at this
  have hv : v % 2 ^ n < 2 ^ 30 := by
    have := val_lt (bitsOf n v); rw [val_bitsOf, hb] at this
    exact Nat.lt_of_lt_of_le this (Nat.pow_le_pow_right (by omega) hn)
  simp (disch := omega) only [SS, f53v2.step, hb, e, hs, h, val_bitsOf]
  rfl
theorem f53_ev (P Z : List Bool) (n v : Nat) (lim : Int) (hn : n ≤ 30) (hl : P.length + n + Z.length ≤ 10000000) :
    Ev (fun R m K => f53 m (n : Int) (P ++ bitsOf n v ++ Z) (P.length : Int) lim 0 K) (fun R K => K ((v % 2 ^ n : Nat) : Int) (P ++ bitsOf n v ++ Z) ((P.length + n : Nat) : Int) lim 0) := Lp.ev (step := fun R m K => f53.step m K) <| .ret <| by
  obtain ⟨N, h⟩ := f90_ev (bitsOf n v) (by simpa [bitsOf_length] using hn)
  refine ⟨N, fun m hm R K call => ?_⟩
  have hb := bitsOf_length n v
  have e : ((P.length : Int) + (n : Int)).toNat = P.length + n := by omega
  have hs : List.drop P.length (List.take (P.length + n) (P ++ bitsOf n v ++ Z)) = bitsOf n v := by have := slice_mid P (bitsOf n v) Z; rwa [hb] at this
  have hv : v % 2 ^ n < 2 ^ 30 := by
    have := val_lt (bitsOf n v); rw [val_bitsOf, hb] at this
    exact Nat.lt_of_lt_of_le this (Nat.pow_le_pow_right (by omega) hn)
  simp (disch := omega) only [SS, f53.step, hb, e, hs, h, val_bitsOf]
  rfl
end Go.Proofs.YtidncoebfnabcaaGreatDoor
namespace Go.Proofs.YtidncoebfnabcaaGreatDoor
open Go.AM
def lenL : List Int := [8, 8, 8, 8, 8, 8, 8, 8, 8, 8, 8, 8, 8, 8, 8, 8, 8, 8, 8, 8, 8, 8, 8, 8, 8, 8, 8, 8, 8, 8, 8, 8, 8, 8, 8, 8, 8, 8, 8, 8, 8, 8, 8, 8, 8, 8, 8, 8, 8, 8, 8, 8, 8, 8, 8, 8, 8, 8, 8, 8, 8, 8, 8, 8, 8, 8, 8, 8, 8, 8, 8, 8, 8, 8, 8, 8, 8, 8, 8, 8, 8, 8, 8, 8, 8, 8, 8, 8, 8, 8, 8, 8, 8, 8, 8, 8, 8, 8, 8, 8, 8, 8, 8, 8, 8, 8, 8, 8, 8, 8, 8, 8, 8, 8, 8, 8, 8, 8, 8, 8, 8, 8, 8, 8, 8, 8, 8, 8, 8, 8, 8, 8, 8, 8, 8, 8, 8, 8, 8, 8, 8, 8, 8, 8, 9, 9, 9, 9, 9, 9, 9, 9, 9, 9, 9, 9, 9, 9, 9, 9, 9, 9, 9, 9, 9, 9, 9, 9, 9, 9, 9, 9, 9, 9, 9, 9, 9, 9, 9, 9, 9, 9, 9, 9, 9, 9, 9, 9, 9, 9, 9, 9, 9, 9, 9, 9, 9, 9, 9, 9, 9, 9, 9, 9, 9, 9, 9, 9, 9, 9, 9, 9, 9, 9, 9, 9, 9, 9, 9, 9, 9, 9, 9, 9, 9, 9, 9, 9, 9, 9, 9, 9, 9, 9, 9, 9, 9, 9, 9, 9, 9, 9, 9, 9, 9, 9, 9, 9, 9, 9, 9, 9, 9, 9, 9, 9, 7, 7, 7, 7, 7, 7, 7, 7, 7, 7, 7, 7, 7, 7, 7, 7, 7, 7, 7, 7, 7, 7, 7, 7, 8, 8, 8, 8, 8, 8, 8, 8]
def lenD : List Int := [5, 5, 5, 5, 5, 5, 5, 5, 5, 5, 5, 5, 5, 5, 5, 5, 5, 5, 5, 5, 5, 5, 5, 5, 5, 5, 5, 5, 5, 5, 5, 5]
def cntL : List Int := [0, 0, 0, 0, 0, 0, 0, 24, 152, 112, 0, 0, 0, 0, 0, 0]
def cntD : List Int := [0, 0, 0, 0, 0, 32, 0, 0, 0, 0, 0, 0, 0, 0, 0, 0]
def symL : List Int := [256, 257, 258, 259, 260, 261, 262, 263, 264, 265, 266, 267, 268, 269, 270, 271, 272, 273, 274, 275, 276, 277, 278, 279, 0, 1, 2, 3, 4, 5, 6, 7, 8, 9, 10, 11, 12, 13, 14, 15, 16, 17, 18, 19, 20, 21, 22, 23, 24, 25, 26, 27, 28, 29, 30, 31, 32, 33, 34, 35, 36, 37, 38, 39, 40, 41, 42, 43, 44, 45, 46, 47, 48, 49, 50, 51, 52, 53, 54, 55, 56, 57, 58, 59, 60, 61, 62, 63, 64, 65, 66, 67, 68, 69, 70, 71, 72, 73, 74, 75, 76, 77, 78, 79, 80, 81, 82, 83, 84, 85, 86, 87, 88, 89, 90, 91, 92, 93, 94, 95, 96, 97, 98, 99, 100, 101, 102, 103, 104, 105, 106, 107, 108, 109, 110, 111, 112, 113, 114, 115, 116, 117, 118, 119, 120, 121, 122, 123, 124, 125, 126, 127, 128, 129, 130, 131, 132, 133, 134, 135, 136, 137, 138, 139, 140, 141, 142, 143, 280, 281, 282, 283, 284, 285, 286, 287, 144, 145, 146, 147, 148, 149, 150, 151, 152, 153, 154, 155, 156, 157, 158, 159, 160, 161, 162, 163, 164, 165, 166, 167, 168, 169, 170, 171, 172, 173, 174, 175, 176, 177, 178, 179, 180, 181, 182, 183, 184, 185, 186, 187, 188, 189, 190, 191, 192, 193, 194, 195, 196, 197, 198, 199, 200, 201, 202, 203, 204, 205, 206, 207, 208, 209, 210, 211, 212, 213, 214, 215, 216, 217, 218, 219, 220, 221, 222, 223, 224, 225, 226, 227, 228, 229, 230, 231, 232, 233, 234, 235, 236, 237, 238, 239, 240, 241, 242, 243, 244, 245, 246, 247, 248, 249, 250, 251, 252, 253, 254, 255]
def symD : List Int := [0, 1, 2, 3, 4, 5, 6, 7, 8, 9, 10, 11, 12, 13, 14, 15, 16, 17, 18, 19, 20, 21, 22, 23, 24, 25, 26, 27, 28, 29, 30, 31]
abbrev TabT := List Int × (List Int × List Int)
def tabL : TabT := (lenL, (cntL, symL))
def tabD : TabT := (lenD, (cntD, symD))
def codL : List (List Bool) := [
  [false, false, true, true, false, false, false, false], [false, false, true, true, false, false, false, true], [false, false, true, true, false, false, true, false], [false, false, true, true, false, false, true, true], [false, false, true, true, false, true, false, false], [false, false, true, true, false, true, false, true], [false, false, true, true, false, true, true, false], [false, false, true, true, false, true, true, true],
  [false, false, true, true, true, false, false, false], [false, false, true, true, true, false, false, true], [false, false, true, true, true, false, true, false], [false, false, true, true, true, false, true, true], [false, false, true, true, true, true, false, false], [false, false, true, true, true, true, false, true], [false, false, true, true, true, true, true, false], [false, false, true, true, true, true, true, true],
  [false, true, false, false, false, false, false, false], [false, true, false, false, false, false, false, true], [false, true, false, false, false, false, true, false], [false, true, false, false, false, false, true, true], [false, true, false, false, false, true, false, false], [false, true, false, false, false, true, false, true], [false, true, false, false, false, true, true, false], [false, true, false, false, false, true, true, true],
  [false, true, false, false, true, false, false, false], [false, true, false, false, true, false, false, true], [false, true, false, false, true, false, true, false], [false, true, false, false, true, false, true, true], [false, true, false, false, true, true, false, false], [false, true, false, false, true, true, false, true], [false, true, false, false, true, true, true, false], [false, true, false, false, true, true, true, true],
  [false, true, false, true, false, false, false, false], [false, true, false, true, false, false, false, true], [false, true, false, true, false, false, true, false], [false, true, false, true, false, false, true, true], [false, true, false, true, false, true, false, false], [false, true, false, true, false, true, false, true], [false, true, false, true, false, true, true, false], [false, true, false, true, false, true, true, true],
  [false, true, false, true, true, false, false, false], [false, true, false, true, true, false, false, true], [false, true, false, true, true, false, true, false], [false, true, false, true, true, false, true, true], [false, true, false, true, true, true, false, false], [false, true, false, true, true, true, false, true], [false, true, false, true, true, true, true, false], [false, true, false, true, true, true, true, true],
  [false, true, true, false, false, false, false, false], [false, true, true, false, false, false, false, true], [false, true, true, false, false, false, true, false], [false, true, true, false, false, false, true, true], [false, true, true, false, false, true, false, false], [false, true, true, false, false, true, false, true], [false, true, true, false, false, true, true, false], [false, true, true, false, false, true, true, true],
  [false, true, true, false, true, false, false, false], [false, true, true, false, true, false, false, true], [false, true, true, false, true, false, true, false], [false, true, true, false, true, false, true, true], [false, true, true, false, true, true, false, false], [false, true, true, false, true, true, false, true], [false, true, true, false, true, true, true, false], [false, true, true, false, true, true, true, true],
  [false, true, true, true, false, false, false, false], [false, true, true, true, false, false, false, true], [false, true, true, true, false, false, true, false], [false, true, true, true, false, false, true, true], [false, true, true, true, false, true, false, false], [false, true, true, true, false, true, false, true], [false, true, true, true, false, true, true, false], [false, true, true, true, false, true, true, true],
  [false, true, true, true, true, false, false, false], [false, true, true, true, true, false, false, true], [false, true, true, true, true, false, true, false], [false, true, true, true, true, false, true, true], [false, true, true, true, true, true, false, false], [false, true, true, true, true, true, false, true], [false, true, true, true, true, true, true, false], [false, true, true, true, true, true, true, true],
  [true, false, false, false, false, false, false, false], [true, false, false, false, false, false, false, true], [true, false, false, false, false, false, true, false], [true, false, false, false, false, false, true, true], [true, false, false, false, false, true, false, false], [true, false, false, false, false, true, false, true], [true, false, false, false, false, true, true, false], [true, false, false, false, false, true, true, true],
  [true, false, false, false, true, false, false, false], [true, false, false, false, true, false, false, true], [true, false, false, false, true, false, true, false], [true, false, false, false, true, false, true, true], [true, false, false, false, true, true, false, false], [true, false, false, false, true, true, false, true], [true, false, false, false, true, true, true, false], [true, false, false, false, true, true, true, true],
  [true, false, false, true, false, false, false, false], [true, false, false, true, false, false, false, true], [true, false, false, true, false, false, true, false], [true, false, false, true, false, false, true, true], [true, false, false, true, false, true, false, false], [true, false, false, true, false, true, false, true], [true, false, false, true, false, true, true, false], [true, false, false, true, false, true, true, true],
  [true, false, false, true, true, false, false, false], [true, false, false, true, true, false, false, true], [true, false, false, true, true, false, true, false], [true, false, false, true, true, false, true, true], [true, false, false, true, true, true, false, false], [true, false, false, true, true, true, false, true], [true, false, false, true, true, true, true, false], [true, false, false, true, true, true, true, true],
  [true, false, true, false, false, false, false, false], [true, false, true, false, false, false, false, true], [true, false, true, false, false, false, true, false], [true, false, true, false, false, false, true, true], [true, false, true, false, false, true, false, false], [true, false, true, false, false, true, false, true], [true, false, true, false, false, true, true, false], [true, false, true, false, false, true, true, true],
  [true, false, true, false, true, false, false, false], [true, false, true, false, true, false, false, true], [true, false, true, false, true, false, true, false], [true, false, true, false, true, false, true, true], [true, false, true, false, true, true, false, false], [true, false, true, false, true, true, false, true], [true, false, true, false, true, true, true, false], [true, false, true, false, true, true, true, true],
  [true, false, true, true, false, false, false, false], [true, false, true, true, false, false, false, true], [true, false, true, true, false, false, true, false], [true, false, true, true, false, false, true, true], [true, false, true, true, false, true, false, false], [true, false, true, true, false, true, false, true], [true, false, true, true, false, true, true, false], [true, false, true, true, false, true, true, true],
  [true, false, true, true, true, false, false, false], [true, false, true, true, true, false, false, true], [true, false, true, true, true, false, true, false], [true, false, true, true, true, false, true, true], [true, false, true, true, true, true, false, false], [true, false, true, true, true, true, false, true], [true, false, true, true, true, true, true, false], [true, false, true, true, true, true, true, true],
  [true, true, false, false, true, false, false, false, false], [true, true, false, false, true, false, false, false, true], [true, true, false, false, true, false, false, true, false], [true, true, false, false, true, false, false, true, true], [true, true, false, false, true, false, true, false, false], [true, true, false, false, true, false, true, false, true], [true, true, false, false, true, false, true, true, false], [true, true, false, false, true, false, true, true, true],
  [true, true, false, false, true, true, false, false, false], [true, true, false, false, true, true, false, false, true], [true, true, false, false, true, true, false, true, false], [true, true, false, false, true, true, false, true, true], [true, true, false, false, true, true, true, false, false], [true, true, false, false, true, true, true, false, true], [true, true, false, false, true, true, true, true, false], [true, true, false, false, true, true, true, true, true],
  [true, true, false, true, false, false, false, false, false], [true, true, false, true, false, false, false, false, true], [true, true, false, true, false, false, false, true, false], [true, true, false, true, false, false, false, true, true], [true, true, false, true, false, false, true, false, false], [true, true, false, true, false, false, true, false, true], [true, true, false, true, false, false, true, true, false], [true, true, false, true, false, false, true, true, true],
  [true, true, false, true, false, true, false, false, false], [true, true, false, true, false, true, false, false, true], [true, true, false, true, false, true, false, true, false], [true, true, false, true, false, true, false, true, true], [true, true, false, true, false, true, true, false, false], [true, true, false, true, false, true, true, false, true], [true, true, false, true, false, true, true, true, false], [true, true, false, true, false, true, true, true, true],
  [true, true, false, true, true, false, false, false, false], [true, true, false, true, true, false, false, false, true], [true, true, false, true, true, false, false, true, false], [true, true, false, true, true, false, false, true, true], [true, true, false, true, true, false, true, false, false], [true, true, false, true, true, false, true, false, true], [true, true, false, true, true, false, true, true, false], [true, true, false, true, true, false, true, true, true],
  [true, true, false, true, true, true, false, false, false], [true, true, false, true, true, true, false, false, true], [true, true, false, true, true, true, false, true, false], [true, true, false, true, true, true, false, true, true], [true, true, false, true, true, true, true, false, false], [true, true, false, true, true, true, true, false, true], [true, true, false, true, true, true, true, true, false], [true, true, false, true, true, true, true, true, true],
  [true, true, true, false, false, false, false, false, false], [true, true, true, false, false, false, false, false, true], [true, true, true, false, false, false, false, true, false], [true, true, true, false, false, false, false, true, true], [true, true, true, false, false, false, true, false, false], [true, true, true, false, false, false, true, false, true], [true, true, true, false, false, false, true, true, false], [true, true, true, false, false, false, true, true, true],
  [true, true, true, false, false, true, false, false, false], [true, true, true, false, false, true, false, false, true], [true, true, true, false, false, true, false, true, false], [true, true, true, false, false, true, false, true, true], [true, true, true, false, false, true, true, false, false], [true, true, true, false, false, true, true, false, true], [true, true, true, false, false, true, true, true, false], [true, true, true, false, false, true, true, true, true],
  [true, true, true, false, true, false, false, false, false], [true, true, true, false, true, false, false, false, true], [true, true, true, false, true, false, false, true, false], [true, true, true, false, true, false, false, true, true], [true, true, true, false, true, false, true, false, false], [true, true, true, false, true, false, true, false, true], [true, true, true, false, true, false, true, true, false], [true, true, true, false, true, false, true, true, true],
  [true, true, true, false, true, true, false, false, false], [true, true, true, false, true, true, false, false, true], [true, true, true, false, true, true, false, true, false], [true, true, true, false, true, true, false, true, true], [true, true, true, false, true, true, true, false, false], [true, true, true, false, true, true, true, false, true], [true, true, true, false, true, true, true, true, false], [true, true, true, false, true, true, true, true, true],
  [true, true, true, true, false, false, false, false, false], [true, true, true, true, false, false, false, false, true], [true, true, true, true, false, false, false, true, false], [true, true, true, true, false, false, false, true, true], [true, true, true, true, false, false, true, false, false], [true, true, true, true, false, false, true, false, true], [true, true, true, true, false, false, true, true, false], [true, true, true, true, false, false, true, true, true],
  [true, true, true, true, false, true, false, false, false], [true, true, true, true, false, true, false, false, true], [true, true, true, true, false, true, false, true, false], [true, true, true, true, false, true, false, true, true], [true, true, true, true, false, true, true, false, false], [true, true, true, true, false, true, true, false, true], [true, true, true, true, false, true, true, true, false], [true, true, true, true, false, true, true, true, true],
  [true, true, true, true, true, false, false, false, false], [true, true, true, true, true, false, false, false, true], [true, true, true, true, true, false, false, true, false], [true, true, true, true, true, false, false, true, true], [true, true, true, true, true, false, true, false, false], [true, true, true, true, true, false, true, false, true], [true, true, true, true, true, false, true, true, false], [true, true, true, true, true, false, true, true, true],
  [true, true, true, true, true, true, false, false, false], [true, true, true, true, true, true, false, false, true], [true, true, true, true, true, true, false, true, false], [true, true, true, true, true, true, false, true, true], [true, true, true, true, true, true, true, false, false], [true, true, true, true, true, true, true, false, true], [true, true, true, true, true, true, true, true, false], [true, true, true, true, true, true, true, true, true],
  [false, false, false, false, false, false, false], [false, false, false, false, false, false, true], [false, false, false, false, false, true, false], [false, false, false, false, false, true, true], [false, false, false, false, true, false, false], [false, false, false, false, true, false, true], [false, false, false, false, true, true, false], [false, false, false, false, true, true, true],
  [false, false, false, true, false, false, false], [false, false, false, true, false, false, true], [false, false, false, true, false, true, false], [false, false, false, true, false, true, true], [false, false, false, true, true, false, false], [false, false, false, true, true, false, true], [false, false, false, true, true, true, false], [false, false, false, true, true, true, true],
  [false, false, true, false, false, false, false], [false, false, true, false, false, false, true], [false, false, true, false, false, true, false], [false, false, true, false, false, true, true], [false, false, true, false, true, false, false], [false, false, true, false, true, false, true], [false, false, true, false, true, true, false], [false, false, true, false, true, true, true],
  [true, true, false, false, false, false, false, false], [true, true, false, false, false, false, false, true], [true, true, false, false, false, false, true, false], [true, true, false, false, false, false, true, true], [true, true, false, false, false, true, false, false], [true, true, false, false, false, true, false, true], [true, true, false, false, false, true, true, false], [true, true, false, false, false, true, true, true]]
def codD : List (List Bool) := [
  [false, false, false, false, false], [false, false, false, false, true], [false, false, false, true, false], [false, false, false, true, true], [false, false, true, false, false], [false, false, true, false, true], [false, false, true, true, false], [false, false, true, true, true],
  [false, true, false, false, false], [false, true, false, false, true], [false, true, false, true, false], [false, true, false, true, true], [false, true, true, false, false], [false, true, true, false, true], [false, true, true, true, false], [false, true, true, true, true],
  [true, false, false, false, false], [true, false, false, false, true], [true, false, false, true, false], [true, false, false, true, true], [true, false, true, false, false], [true, false, true, false, true], [true, false, true, true, false], [true, false, true, true, true],
  [true, true, false, false, false], [true, true, false, false, true], [true, true, false, true, false], [true, true, false, true, true], [true, true, true, false, false], [true, true, true, false, true], [true, true, true, true, false], [true, true, true, true, true]]
def basL : List Int := [3, 4, 5, 6, 7, 8, 9, 10, 11, 13, 15, 17, 19, 23, 27, 31, 35, 43, 51, 59, 67, 83, 99, 115, 131, 163, 195, 227, 258]
def extL : List Int := [0, 0, 0, 0, 0, 0, 0, 0, 1, 1, 1, 1, 2, 2, 2, 2, 3, 3, 3, 3, 4, 4, 4, 4, 5, 5, 5, 5, 0]
def basD : List Int := [1, 2, 3, 4, 5, 7, 9, 13, 17, 25, 33, 49, 65, 97, 129, 193, 257, 385, 513, 769, 1025, 1537, 2049, 3073, 4097, 6145, 8193, 12289, 16385, 24577]
def extD : List Int := [0, 0, 0, 0, 1, 1, 2, 2, 3, 3, 4, 4, 5, 5, 6, 6, 7, 7, 8, 8, 9, 9, 10, 10, 11, 11, 12, 12, 13, 13]
theorem Ev.closed {κ : Type → Type} {f : ∀ R, Nat → κ R → Option R} {res : ∀ R, κ R → Option R} (c : Nat) (h : ∀ k R K, f R (k + c) K = res R K) : Ev f res := ⟨c, fun m hm R K => by
  obtain ⟨k, rfl⟩ : ∃ k, m = k + c := ⟨m - c, by omega⟩
  exact h k R K⟩
theorem f81_ev : Ev (fun R m K => f81 m K) (fun R K => K (some tabL) (some tabD)) := .closed 6000 fun k R K => by kernel_rfl
theorem f55_ev : Ev (fun R m K => f55 m K) (fun R K => K lenL lenD) := .closed 2000 fun k R K => by kernel_rfl
theorem f92_L : Ev (fun R m K => f92 m lenL K) (fun R K => K codL) := .closed 10000 fun k R K => by kernel_rfl
theorem f92_D : Ev (fun R m K => f92 m lenD K) (fun R K => K codD) := .closed 10000 fun k R K => by kernel_rfl
theorem f93_ev : Ev (fun R m K => f93 m K) (fun R K => K basL extL basD extD) := .closed 1000 fun k R K => by kernel_rfl
end Go.Proofs.YtidncoebfnabcaaGreatDoor
namespace Go.Proofs.YtidncoebfnabcaaGreatDoor
open Go.AM
/-! ### Codes and bases -/
theorem fdvn (x y : Nat) : (x : Int).fdiv (y : Int) = ((x / y : Nat) : Int) := by
  rw [Int.fdiv_eq_ediv_of_nonneg _ (Int.natCast_nonneg y)]; simp
theorem range_inj {α : Type} {f g : Nat → α} {n : Nat} (h : (List.range n).map f = (List.range n).map g) (s : Nat) (hs : s < n) : f s = g s := by
  have := congrArg (fun l => l[s]?) h
  simpa [hs] using this
def cdL (s : Nat) : List Bool := codL.getD s []
def cdD (s : Nat) : List Bool := codD.getD s []
theorem cdL_len : ∀ s, s < 288 → 7 ≤ (cdL s).length ∧ (cdL s).length ≤ 9 := by decide +kernel
theorem cdD_len : ∀ s, s < 32 → (cdD s).length = 5 := by decide +kernel
theorem f83_L (s : Nat) (h : s < 288) : Ev (fun R m K => f83 m (some tabL) (s : Int) K) (fun R K => K ((val (cdL s).reverse : Nat) : Int) (((cdL s).length : Nat) : Int)) := .closed 1000 fun k R K =>
  range_inj (n := 288) (f := fun s => f83 (k + 1000) (some tabL) (s : Int) K) (g := fun s => K ((val (cdL s).reverse : Nat) : Int) (((cdL s).length : Nat) : Int)) (by kernel_rfl) s h
theorem f83_D (s : Nat) (h : s < 32) : Ev (fun R m K => f83 m (some tabD) (s : Int) K) (fun R K => K ((val (cdD s).reverse : Nat) : Int) (((cdD s).length : Nat) : Int)) := .closed 1000 fun k R K =>
  range_inj (n := 32) (f := fun s => f83 (k + 1000) (some tabD) (s : Int) K) (g := fun s => K ((val (cdD s).reverse : Nat) : Int) (((cdD s).length : Nat) : Int)) (by kernel_rfl) s h

def bL (s : Nat) : Nat := (basL.getD s 0).toNat
def eL (s : Nat) : Nat := (extL.getD s 0).toNat
def bD (s : Nat) : Nat := (basD.getD s 0).toNat
def eD (s : Nat) : Nat := (extD.getD s 0).toNat
theorem f86_ev (s : Nat) (h : s < 29) : Ev (fun R m K => f86 m (s : Int) K) (fun R K => K (bL s : Int) (eL s : Int)) := .closed 10 fun k R K =>
  range_inj (n := 29) (f := fun s => f86 (k + 10) (s : Int) K) (g := fun s => K (bL s : Int) (eL s : Int)) (by kernel_rfl) s h
theorem f87_ev (s : Nat) (h : s < 30) : Ev (fun R m K => f87 m (s : Int) K) (fun R K => K (bD s : Int) (eD s : Int)) := .closed 10 fun k R K =>
  range_inj (n := 30) (f := fun s => f87 (k + 10) (s : Int) K) (g := fun s => K (bD s : Int) (eD s : Int)) (by kernel_rfl) s h
def symO (b : Nat → Nat) (L : Nat) : Nat → Nat
  | 0 => 0
  | s + 1 => if b (s + 1) ≤ L then s + 1 else symO b L s
def sL (L : Nat) : Nat := symO bL L 28
def sD (D : Nat) : Nat := symO bD D 29
theorem sL_ok : ∀ L, L < 259 → 3 ≤ L → sL L < 29 ∧ bL (sL L) ≤ L ∧ L - bL (sL L) < 2 ^ eL (sL L) ∧ eL (sL L) ≤ 13 := by decide +kernel
theorem sD_ok : ∀ D, D < 2000 → 1 ≤ D → sD D < 30 ∧ bD (sD D) ≤ D ∧ D - bD (sD D) < 2 ^ eD (sD D) ∧ eD (sD D) ≤ 13 := by decide +kernel
theorem f85_lp (L : Nat) (hL : 3 ≤ L) (hh : L < 300) : ∀ s : Nat, s < 29 → Lp (fun R m K => f85.step m K) (.s1 (L : Int) (s : Int)) (fun R K => K (symO bL L s : Int) ((L - bL (symO bL L s) : Nat) : Int) (eL (symO bL L s) : Int))
  | 0, h => .ret (by
    obtain ⟨N, e⟩ := f86_ev 0 (by omega)
    refine ⟨N, fun m hm R K call => ?_⟩
    have h3 : bL 0 = 3 := rfl
    have e : ∀ K, f86 m ((0 : Nat) : Int) K = K (bL 0 : Int) (eL 0 : Int) := e m hm R
    have q : ((L : Int) - (bL 0 : Int)) = ((L - bL 0 : Nat) : Int) := by omega
    simp (disch := omega) only [SS, f85.step, e, q, w32, symO])
  | s + 1, h => by
    obtain ⟨N, e⟩ := f86_ev (s + 1) h
    by_cases hb : bL (s + 1) ≤ L
    · refine .ret ⟨N, fun m hm R K call => ?_⟩
      have e := e m hm R
      have q : ((L : Int) - (bL (s + 1) : Int)) = ((L - bL (s + 1) : Nat) : Int) := by omega
      simp (disch := omega) only [SS, f85.step, e, q, w32, symO, if_pos hb]
    · refine .next _ ⟨N, fun m hm R K call => ?_⟩ (by rw [symO, if_neg hb]; exact f85_lp L hL hh s (by omega))
      have e := e m hm R
      have q : ((s + 1 : Nat) : Int) - 1 = (s : Int) := by omega
      simp (disch := omega) only [SS, f85.step, e, q]
theorem f85_ev (L : Nat) (hL : 3 ≤ L) (hh : L < 300) : Ev (fun R m K => f85 m (L : Int) 28 K) (fun R K => K (sL L : Int) ((L - bL (sL L) : Nat) : Int) (eL (sL L) : Int)) := Lp.ev (step := fun R m K => f85.step m K) <|
  .next0 _ (fun m R K call => rfl) (f85_lp L hL hh 28 (by omega))
theorem f85v2_lp (L : Nat) (hL : 1 ≤ L) (hh : L < 30000) : ∀ s : Nat, s < 30 → Lp (fun R m K => f85v2.step m K) (.s1 (L : Int) (s : Int)) (fun R K => K (symO bD L s : Int) ((L - bD (symO bD L s) : Nat) : Int) (eD (symO bD L s) : Int))
  | 0, h => .ret (by
    obtain ⟨N, e⟩ := f87_ev 0 (by omega)
    refine ⟨N, fun m hm R K call => ?_⟩
    have h3 : bD 0 = 1 := rfl
    have e : ∀ K, f87 m ((0 : Nat) : Int) K = K (bD 0 : Int) (eD 0 : Int) := e m hm R
    have q : ((L : Int) - (bD 0 : Int)) = ((L - bD 0 : Nat) : Int) := by omega
    simp (disch := omega) only [SS, f85v2.step, e, q, w32, symO])
  | s + 1, h => by
    obtain ⟨N, e⟩ := f87_ev (s + 1) h
    by_cases hb : bD (s + 1) ≤ L
    · refine .ret ⟨N, fun m hm R K call => ?_⟩
      have e := e m hm R
      have q : ((L : Int) - (bD (s + 1) : Int)) = ((L - bD (s + 1) : Nat) : Int) := by omega
      simp (disch := omega) only [SS, f85v2.step, e, q, w32, symO, if_pos hb]
    · refine .next _ ⟨N, fun m hm R K call => ?_⟩ (by rw [symO, if_neg hb]; exact f85v2_lp L hL hh s (by omega))
      have e := e m hm R
      have q : ((s + 1 : Nat) : Int) - 1 = (s : Int) := by omega
      simp (disch := omega) only [SS, f85v2.step, e, q]
theorem f85v2_ev (L : Nat) (hL : 1 ≤ L) (hh : L < 30000) : Ev (fun R m K => f85v2 m (L : Int) 29 K) (fun R K => K (sD L : Int) ((L - bD (sD L) : Nat) : Int) (eD (sD L) : Int)) := Lp.ev (step := fun R m K => f85v2.step m K) <|
  .next0 _ (fun m R K call => rfl) (f85v2_lp L hL hh 29 (by omega))
end Go.Proofs.YtidncoebfnabcaaGreatDoor
