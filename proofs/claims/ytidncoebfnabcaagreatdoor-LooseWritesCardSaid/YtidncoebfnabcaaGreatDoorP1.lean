/- The pure law, part two: Deflate, and the reference reads what it wrote. -/
import Derived.Test.YtidncoebfnabcaaGreatDoorP0
set_option linter.unusedVariables false
set_option linter.unusedSimpArgs false
namespace Go.Proofs.YtidncoebfnabcaaGreatDoor
open Go.AM

/-! ### Bit operations -/
theorem or_u64 {x y : Nat} (hx : x < 2 ^ 64) (hy : y < 2 ^ 64) : ibits .or .u64 (x : Int) (y : Int) = ((x ||| y : Nat) : Int) := by
  have := Nat.or_lt_two_pow hx hy
  show IntKind.wrap .u64 ((BitVec.ofInt 64 (x : Int) ||| BitVec.ofInt 64 (y : Int)).toNat : Int) = _
  simp only [BitVec.ofInt_natCast, BitVec.toNat_or, BitVec.toNat_ofNat, Nat.mod_eq_of_lt hx, Nat.mod_eq_of_lt hy]
  rw [wu64 (by omega)]
theorem or_i64 {x y : Nat} (hx : x < 2 ^ 63) (hy : y < 2 ^ 63) : ibits .or .i64 (x : Int) (y : Int) = ((x ||| y : Nat) : Int) := by
  have := Nat.or_lt_two_pow hx hy
  show IntKind.wrap .i64 ((BitVec.ofInt 64 (x : Int) ||| BitVec.ofInt 64 (y : Int)).toNat : Int) = _
  simp only [BitVec.ofInt_natCast, BitVec.toNat_or, BitVec.toNat_ofNat, Nat.mod_eq_of_lt (Nat.lt_of_lt_of_le hx (by decide : 2 ^ 63 ≤ 2 ^ 64)), Nat.mod_eq_of_lt (Nat.lt_of_lt_of_le hy (by decide : 2 ^ 63 ≤ 2 ^ 64))]
  rw [w64 (by omega)]
theorem or_u32 {x y : Nat} (hx : x < 2 ^ 32) (hy : y < 2 ^ 32) : ibits .or .u32 (x : Int) (y : Int) = ((x ||| y : Nat) : Int) := by
  have := Nat.or_lt_two_pow hx hy
  show IntKind.wrap .u32 ((BitVec.ofInt 32 (x : Int) ||| BitVec.ofInt 32 (y : Int)).toNat : Int) = _
  simp only [BitVec.ofInt_natCast, BitVec.toNat_or, BitVec.toNat_ofNat, Nat.mod_eq_of_lt hx, Nat.mod_eq_of_lt hy]
  rw [w32 (by omega)]
theorem and_u64 {x y : Nat} (hx : x < 2 ^ 64) (hy : y < 2 ^ 64) : ibits .and .u64 (x : Int) (y : Int) = ((x &&& y : Nat) : Int) := by
  have := Nat.and_lt_two_pow x hy
  show IntKind.wrap .u64 ((BitVec.ofInt 64 (x : Int) &&& BitVec.ofInt 64 (y : Int)).toNat : Int) = _
  simp only [BitVec.ofInt_natCast, BitVec.toNat_and, BitVec.toNat_ofNat, Nat.mod_eq_of_lt hx, Nat.mod_eq_of_lt hy]
  rw [wu64 (by omega)]
theorem or_add {x k : Nat} (y : Nat) (h : x < 2 ^ k) : x ||| y * 2 ^ k = x + y * 2 ^ k := by
  have := Nat.two_pow_add_eq_or_of_lt h y
  rw [Nat.mul_comm y, Nat.or_comm, ← this, Nat.add_comm]
theorem p2 (k : Nat) : ((2 : Int) ^ k) = ((2 ^ k : Nat) : Int) := by simp
theorem min64 {k : Nat} (h : k ≤ 64) : min k 64 = k := Nat.min_eq_left h
theorem min32 {k : Nat} (h : k ≤ 32) : min k 32 = k := Nat.min_eq_left h
theorem pow_le {a b : Nat} (h : a ≤ b) : 2 ^ a ≤ 2 ^ b := Nat.pow_le_pow_right (by omega) h

/-! ### The writer -/
structure WR (B : List Bool) (acc cnt : Nat) (out : List UInt8) : Prop where
  hc : cnt < 8
  ha : acc < 2 ^ cnt
  bits : B = bb out ++ bitsOf cnt acc
theorem WR.len {B : List Bool} {acc cnt : Nat} {out : List UInt8} (h : WR B acc cnt out) : B.length = 8 * out.length + cnt := by
  rw [h.bits]; simp [bb_length, bitsOf_length]
theorem and_mask {x k : Nat} : x &&& (2 ^ k - 1) = x % 2 ^ k := Nat.and_two_pow_sub_one_eq_mod x k

abbrev K3 (R : Type) := Int → Int → List Int → Option R
theorem f82_drain :
    ∀ (t cnt acc : Nat) (out : List UInt8) (B : List Bool), cnt < 8 * (t + 1) → cnt ≤ 64 → acc < 2 ^ cnt → B = bb out ++ bitsOf cnt acc → out.length + t ≤ 1000000 →
    ∃ acc' cnt' out', WR B acc' cnt' out' ∧ out'.length ≤ out.length + t ∧ Lp (κ := fun R => K3 R × K3 R) (fun R m K => f82v2.step m K.1 K.2) (.s2 (acc : Int) (cnt : Int) (ints out)) (fun R K => K.2 (acc' : Int) (cnt' : Int) (ints out')) := by
  intro t
  induction t with
  | zero =>
    intro cnt acc out B hc _ ha hb ho
    exact ⟨acc, cnt, out, ⟨by omega, ha, hb⟩, by omega, .ret0 fun m R K call => by simp (disch := omega) only [SS, f82v2.step]⟩
  | succ t ih =>
    intro cnt acc out B hc h64 ha hb ho
    by_cases h8 : 8 ≤ cnt
    · obtain ⟨c, rfl⟩ : ∃ c, cnt = 8 + c := ⟨cnt - 8, by omega⟩
      have ho8 : (UInt8.ofNat (acc % 256)).toNat = acc % 256 := by simp
      have hd : acc / 256 < 2 ^ c := by
        rw [Nat.div_lt_iff_lt_mul (by omega)]; rw [Nat.pow_add] at ha; omega
      obtain ⟨a', c', o', h1, h2, h3⟩ := ih c (acc / 256) (out ++ [UInt8.ofNat (acc % 256)]) B (by omega) (by omega) hd (by
        rw [hb, bitsOf_add, bb_append, bb_cons, bb_nil, ho8, ← bitsOf_mod 8 acc]; simp) (by simp; omega)
      refine ⟨a', c', o', h1, by simp at h2; omega, .next0 _ (fun m R K call => ?_) h3⟩
      have e : IntKind.wrap .u8 (acc : Int) = ((acc % 256 : Nat) : Int) := by rw [IntKind.wrap_u8]; omega
      have e1 : ((acc : Int) / 256) = ((acc / 256 : Nat) : Int) := by omega
      have e2 : ((8 + c : Nat) : Int) - 8 = (c : Int) := by omega
      simp (disch := omega) only [SS, f82v2.step, e, fdv, e1, e2]
      simp [ints]
    · exact ⟨acc, cnt, out, ⟨by omega, ha, hb⟩, by omega, .ret0 fun m R K call => by simp (disch := omega) only [SS, f82v2.step]⟩

theorem f82_ev {B : List Bool} {acc cnt : Nat} {out : List UInt8} (h : WR B acc cnt out) (v n : Nat) (hv : v < 2 ^ 32) (hn : n ≤ 32) (ho : out.length ≤ 100000) :
    ∃ acc' cnt' out' b, WR (B ++ bitsOf n v) acc' cnt' out' ∧ ∃ N, ∀ m, N ≤ m → ∀ R (K0 K1 : K3 R), f82v2 m (v : Int) (n : Int) (acc : Int) (cnt : Int) (ints out) K0 K1 = (bif b then K1 else K0) (acc' : Int) (cnt' : Int) (ints out') := by
  have hc := h.hc
  have ha := h.ha
  have hp := pow_le (a := cnt) (b := 7) (by omega)
  have hm : v % 2 ^ n < 2 ^ n := Nat.mod_lt _ (Nat.pow_pos (by omega))
  have hp2 := pow_le (a := n) (b := 32) (by omega)
  have hx : v % 2 ^ n * 2 ^ cnt < 2 ^ 32 * 2 ^ 7 := Nat.lt_of_lt_of_le (Nat.mul_lt_mul_of_pos_right (Nat.lt_of_lt_of_le hm hp2) (Nat.pow_pos (by omega))) (Nat.mul_le_mul (Nat.le_refl _) hp)
  have hnew : acc + v % 2 ^ n * 2 ^ cnt < 2 ^ (cnt + n) := by
    rw [Nat.pow_add, Nat.mul_comm (2 ^ cnt)]
    have : (v % 2 ^ n + 1) * 2 ^ cnt ≤ 2 ^ n * 2 ^ cnt := Nat.mul_le_mul_right _ hm
    rw [Nat.add_mul] at this
    omega
  have hb : B ++ bitsOf n v = bb out ++ bitsOf (cnt + n) (acc + v % 2 ^ n * 2 ^ cnt) := by
    rw [bitsOf_join _ _ _ _ ha, bitsOf_mod, h.bits, List.append_assoc]
  have hone : 1 ≤ 2 ^ n := Nat.one_le_two_pow
  have s0 : ∀ (m : Nat) (R : Type) (K : K3 R × K3 R) (call : f82v2.St → Option R), f82v2.step m K.1 K.2 call (.s0 (v : Int) (n : Int) (acc : Int) (cnt : Int) (ints out)) = call (.s1 ((acc + v % 2 ^ n * 2 ^ cnt : Nat) : Int) ((cnt + n : Nat) : Int) (ints out)) := by
    intro m R K call
    have e1 : ((2 ^ n : Nat) : Int) - 1 = ((2 ^ n - 1 : Nat) : Int) := by omega
    have e2 : (((v % 2 ^ n : Nat) : Int) * ((2 ^ cnt : Nat) : Int)) = ((v % 2 ^ n * 2 ^ cnt : Nat) : Int) := by simp
    simp (disch := omega) only [SS, f82v2.step, min64, p2, Int.one_mul, wu64]
    rw [e1, and_u64 (by omega) (by omega), and_mask, e2, wu64 (by omega), or_u64 (by omega) (by omega), or_add _ ha]
    rfl
  by_cases h8 : cnt + n < 8
  · refine ⟨acc + v % 2 ^ n * 2 ^ cnt, cnt + n, out, false, ⟨h8, hnew, hb⟩, ?_⟩
    have : Lp (κ := fun R => K3 R × K3 R) (fun R m K => f82v2.step m K.1 K.2) (.s0 (v : Int) (n : Int) (acc : Int) (cnt : Int) (ints out)) (fun R K => K.1 ((acc + v % 2 ^ n * 2 ^ cnt : Nat) : Int) ((cnt + n : Nat) : Int) (ints out)) :=
      .next0 _ s0 (.ret0 fun m R K call => by simp (disch := omega) only [SS, f82v2.step])
    obtain ⟨N, h⟩ := this
    exact ⟨N, fun m hm R K0 K1 => h m m hm hm R (K0, K1)⟩
  · obtain ⟨a', c', o', h1, h2, N, h3⟩ := f82_drain 6 (cnt + n) _ out (B ++ bitsOf n v) (by omega) (by omega) hnew hb (by omega)
    refine ⟨a', c', o', true, h1, ?_⟩
    have : Lp (κ := fun R => K3 R × K3 R) (fun R m K => f82v2.step m K.1 K.2) (.s0 (v : Int) (n : Int) (acc : Int) (cnt : Int) (ints out)) (fun R K => K.2 (a' : Int) (c' : Int) (ints o')) := by
      refine .next0 _ s0 ⟨N + 1, fun m n' hm hn' R K => ?_⟩
      have := h3 m n' (by omega) (by omega) R K
      obtain ⟨n', rfl⟩ : ∃ k, n' = k + 1 := ⟨n' - 1, by omega⟩
      simp only [iter, f82v2.step] at this ⊢
      rw [dt (by omega)] at this ⊢
      exact this
    obtain ⟨N, h⟩ := this
    exact ⟨N, fun m hm R K0 K1 => h m m hm hm R (K0, K1)⟩

def msb (n c : Nat) : List Bool := (bitsOf n c).reverse
theorem msb_succ (n c : Nat) : msb (n + 1) c = bitsOf 1 (c / 2 ^ n) ++ msb n c := by
  rw [msb, bitsOf_add]; simp [msb, bitsOf]
theorem f84_lp : ∀ (n : Nat) (f : Bool) {B : List Bool} {acc cnt : Nat} {out : List UInt8} (h : WR B acc cnt out) (c : Nat) (hc : c < 2 ^ 32) (hn : n ≤ 32) (ho : B.length + n ≤ 100000),
    ∃ acc' cnt' out', WR (B ++ msb n c) acc' cnt' out' ∧ Lp (κ := K3) (fun R m K => f84.step m K K) (bif f then .s2 (c : Int) ((n : Int) - 1) (acc : Int) (cnt : Int) (ints out) else .s1 (c : Int) ((n : Int) - 1) (acc : Int) (cnt : Int) (ints out)) (fun R K => K (acc' : Int) (cnt' : Int) (ints out'))
  | 0, f, B, acc, cnt, out, h, c, hc, hn, ho => ⟨acc, cnt, out, by simpa [msb, bitsOf] using h, .ret0 fun m R K call => by cases f <;> simp only [cond_true, cond_false] <;> simp (disch := omega) only [SS, f84.step]⟩
  | n + 1, f, B, acc, cnt, out, h, c, hc, hn, ho => by
    have hl := h.len
    have hd : c / 2 ^ n < 2 ^ 32 := Nat.lt_of_le_of_lt (Nat.div_le_self _ _) hc
    obtain ⟨a1, c1, o1, b, w1, N, e1⟩ := f82_ev h (c / 2 ^ n) 1 hd (by omega) (by omega)
    obtain ⟨a2, c2, o2, w2, e2⟩ := f84_lp n (b || f) w1 c hc (by omega) (by simp [bitsOf_length]; omega)
    refine ⟨a2, c2, o2, by rw [msb_succ, ← List.append_assoc]; exact w2, .next _ ⟨N, fun m hm R K call => ?_⟩ e2⟩
    have q : ((n + 1 : Nat) : Int) - 1 = (n : Int) := by omega
    have q2 : ((c : Int) / ((2 ^ n : Nat) : Int)) = ((c / 2 ^ n : Nat) : Int) := by simp
    have q3 := e1 m hm
    rw [show ((1 : Nat) : Int) = 1 from rfl] at q3
    cases f
    · simp only [cond_false, q, Bool.or_false]
      simp (disch := omega) only [SS, f84.step, min32, p2, fdvn, q3]
      cases b <;> rfl
    · simp only [cond_true, q, Bool.or_true]
      simp (disch := omega) only [SS, f84.step, min32, p2, fdvn, q3]
      cases b <;> rfl
theorem f84_ev {B : List Bool} {acc cnt : Nat} {out : List UInt8} (h : WR B acc cnt out) (n c : Nat) (hc : c < 2 ^ 32) (h1 : 1 ≤ n) (hn : n ≤ 32) (ho : B.length + n ≤ 100000) :
    ∃ acc' cnt' out', WR (B ++ msb n c) acc' cnt' out' ∧ Ev (κ := K3) (fun R m K => f84 m (c : Int) (n : Int) (acc : Int) (cnt : Int) (ints out) K K) (fun R K => K (acc' : Int) (cnt' : Int) (ints out')) := by
  obtain ⟨a2, c2, o2, w2, e2⟩ := f84_lp n false h c hc hn ho
  exact ⟨a2, c2, o2, w2, Lp.ev (step := fun R m K => f84.step m K K) (.next0 _ (fun m R K call => by simp (disch := omega) only [SS, f84.step]) e2)⟩

theorem msb_val (c : List Bool) : msb c.length (val c.reverse) = c := by
  have := bitsOf_val c.reverse
  rw [List.length_reverse] at this
  rw [msb, this, List.reverse_reverse]
end Go.Proofs.YtidncoebfnabcaaGreatDoor
namespace Go.Proofs.YtidncoebfnabcaaGreatDoor
open Go.AM

/-! ### Deflate -/
def ext (pre : List UInt8) (D : Nat) : Nat → List UInt8
  | 0 => pre
  | L + 1 => ext pre D L ++ [(ext pre D L).getD ((ext pre D L).length - D) 0]
theorem ext_length (pre : List UInt8) (D : Nat) : ∀ L, (ext pre D L).length = pre.length + L
  | 0 => rfl
  | L + 1 => by rw [ext, List.length_append, ext_length pre D L]; rfl
def tokL (L : Nat) : List Bool := cdL (257 + sL L) ++ bitsOf (eL (sL L)) (L - bL (sL L))
def tokD (D : Nat) : List Bool := cdD (sD D) ++ bitsOf (eD (sD D)) (D - bD (sD D))
inductive Dv : List Bool → List UInt8 → Prop
  | nil : Dv [] []
  | lit {B : List Bool} {pre : List UInt8} (b : UInt8) : Dv B pre → Dv (B ++ cdL b.toNat) (pre ++ [b])
  | cpy {B : List Bool} {pre : List UInt8} (L D : Nat) : Dv B pre → 3 ≤ L → L < 259 → 1 ≤ D → D ≤ pre.length → D < 2000 → Dv (B ++ (tokL L ++ tokD D)) (ext pre D L)

theorem take_succ' (d : List UInt8) (n : Nat) (h : n < d.length) : d.take (n + 1) = d.take n ++ [d.getD n 0] := by
  rw [List.take_succ_eq_append_getElem h]; simp [h]
theorem ext_take (d : List UInt8) (a D : Nat) (hD : 1 ≤ D) (hDa : D ≤ a) : ∀ L, a + L ≤ d.length → (∀ i, i < L → d.getD (a - D + i) 0 = d.getD (a + i) 0) → ext (d.take a) D L = d.take (a + L)
  | 0, _, _ => rfl
  | L + 1, h, he => by
    have ih := ext_take d a D hD hDa L (by omega) (fun i hi => he i (by omega))
    rw [ext, ih, ← Nat.add_assoc, take_succ' d (a + L) (by omega)]
    congr 2
    rw [← he L (by omega), List.length_take, Nat.min_eq_left (by omega)]
    have : a + L - D = a - D + L := by omega
    rw [this]
    simp [List.getD_eq_getElem?_getD, List.getElem?_take, show a - D + L < a + L by omega]

theorem mget_mem {α : Type} {mp : List (List UInt8 × α)} {k : List UInt8} {v : α} (h : mget (fun (a b : List UInt8) => decide (a = b)) mp k = some v) : ∃ e ∈ mp, e.2 = v := by
  induction mp with
  | nil => simp [mget] at h
  | cons e es ih =>
    unfold mget at h
    by_cases c : k = e.1
    · simp [c] at h; exact ⟨e, by simp, h⟩
    · simp [c] at h
      obtain ⟨e', h1, h2⟩ := ih h
      exact ⟨e', by simp [h1], h2⟩
theorem mset_mem {α : Type} {mp : List (List UInt8 × α)} {k : List UInt8} {v : α} {e : List UInt8 × α} (h : e ∈ mset (fun (a b : List UInt8) => decide (a = b)) mp k v) : e ∈ mp ∨ e.2 = v := by
  induction mp with
  | nil => simp [mset] at h; exact .inr (by rw [h])
  | cons x xs ih =>
    unfold mset at h
    by_cases c : k = x.1
    · simp [c] at h
      rcases h with h | h
      · exact .inr (by rw [h])
      · exact .inl (by simp [h])
    · simp [c] at h
      rcases h with h | h
      · exact .inl (by simp [h])
      · rcases ih h with h | h
        · exact .inl (by simp [h])
        · exact .inr h

/-! #### The writer's text -/
theorem bytesOf_append (a b : List Int) : bytesOf (a ++ b) = bytesOf a ++ bytesOf b := by simp [bytesOf]
theorem f88_ev {B : List Bool} {acc cnt : Nat} {out : List UInt8} (h : WR B acc cnt out) (ho : B.length ≤ 1000000) :
    ∃ r pad, bb r = B ++ pad ∧ pad.length < 8 ∧ Ev (fun R m K => f88 m (some (ints out, ((acc : Int), (cnt : Int)))) K) (fun R K => K r) := by
  have hl := h.len
  have hc := h.hc
  have ha := h.ha
  have hp := pow_le (a := cnt) (b := 7) (by omega)
  by_cases h0 : cnt = 0
  · subst h0
    refine ⟨out, [], by rw [h.bits]; simp [bitsOf], by simp, Lp.ev (step := fun R m K => f88.step m K) <| .ret0 fun m R K call => ?_⟩
    simp (disch := omega) only [SS, f88.step, deref, bytesOf_map]
  · refine ⟨out ++ [UInt8.ofNat acc], bitsOf (8 - cnt) (acc / 2 ^ cnt), ?_, by rw [bitsOf_length]; omega, Lp.ev (step := fun R m K => f88.step m K) <| .ret0 fun m R K call => ?_⟩
    · have e : (UInt8.ofNat acc).toNat = acc := by simp; omega
      rw [h.bits, bb_append, bb_cons, bb_nil, e, List.append_nil, List.append_assoc, ← bitsOf_add, show cnt + (8 - cnt) = 8 by omega]
    · simp (disch := omega) only [SS, f88.step, deref, bytesOf_map, w8]
      have : bytesOf [(acc : Int)] = [UInt8.ofNat acc] := by simp [bytesOf]
      rw [this]
      simp (disch := omega) only [SS]

/-! #### The stored text -/
def le2 (n : Nat) : List UInt8 := [UInt8.ofNat (n % 256), UInt8.ofNat (n / 256)]
def stored (d : List UInt8) : List UInt8 := 1 :: (le2 d.length ++ le2 (65535 - d.length)) ++ d
theorem f125_ev (n : Nat) (h : n < 65536) : Ev (fun R m K => f125 m (n : Int) 2 K) (fun R K => K (le2 n)) := Lp.ev (step := fun R m K => f125.step m K) <| by
  refine .next0 (.s1 (n : Int) 2 0 []) (fun m R K call => rfl) ?_
  refine .next0 (.s1 (n : Int) 2 1 [((n % 256 : Nat) : Int)]) (fun m R K call => ?_) ?_
  · have e : IntKind.wrap .u8 (n : Int) = ((n % 256 : Nat) : Int) := by rw [IntKind.wrap_u8]; omega
    simp (disch := omega) only [SS, f125.step]
    simp [fdv, e]
  refine .next0 (.s1 (n : Int) 2 2 [((n % 256 : Nat) : Int), ((n / 256 : Nat) : Int)]) (fun m R K call => ?_) ?_
  · simp (disch := omega) only [SS, f125.step]
    have e2 : ((n : Int) / 256) = ((n / 256 : Nat) : Int) := by omega
    have e3 : ((8 * 1 : Int)).toNat = 8 := rfl
    rw [e3, show min 8 64 = 8 from rfl, fdv (by decide), show ((2 : Int) ^ 8) = 256 from rfl, e2, w8 (by omega)]
    rfl
  refine .ret0 fun m R K call => ?_
  simp (disch := omega) only [SS, f125.step]
  rfl
theorem xor_i64 : ∀ n, n < 2500 → ibits .xor .i64 ((n : Nat) : Int) 65535 = ((65535 - n : Nat) : Int) := by decide +kernel
theorem f89_ev (d : List UInt8) (h : d.length ≤ 2400) : Ev (fun R m K => f89 m d K) (fun R K => K (stored d)) := Lp.ev (step := fun R m K => f89.step m K) <| by
  have b1 : ∃ N, ∀ m, N ≤ m → ∀ R (K0 K1 : K3 R), f82v2 m 1 3 0 0 [] K0 K1 = K0 1 3 [] := ⟨5, fun m hm R K0 K1 => by
    obtain ⟨k, rfl⟩ : ∃ k, m = k + 5 := ⟨m - 5, by omega⟩
    kernel_rfl⟩
  have b2 : ∃ N, ∀ m, N ≤ m → ∀ R (K0 K1 : K3 R), f82v2 m 0 5 1 3 [] K0 K1 = K1 0 0 [1] := ⟨5, fun m hm R K0 K1 => by
    obtain ⟨k, rfl⟩ : ∃ k, m = k + 5 := ⟨m - 5, by omega⟩
    kernel_rfl⟩
  obtain ⟨N1, b1⟩ := b1
  obtain ⟨N2, b2⟩ := b2
  obtain ⟨N3, b3⟩ := f125_ev d.length (by omega)
  obtain ⟨N4, b4⟩ := f125_ev (65535 - d.length) (by omega)
  have b5 : ∃ N, ∀ m, N ≤ m → ∀ R (K0 K1 : K3 R), f152v2 m 1 3 [] K0 K1 = K1 0 0 [1] := ⟨N2 + 1, fun m hm R K0 K1 => by
    obtain ⟨k, rfl⟩ : ∃ k, m = k + 1 := ⟨m - 1, by omega⟩
    simp only [f152v2, iter, f152v2.step]
    simp (disch := omega) only [SS]
    exact b2 (k + 1) (by omega) R _ _⟩
  obtain ⟨N5, b5⟩ := b5
  refine .next0 (.s1 d 0 0 []) (fun m R K call => rfl) ?_
  refine .next0 (.s2 d (d.length : Int) 1 0 0 []) (fun m R K call => by
    simp only [f89.step]
    rw [if_neg (by omega)]
    simp (disch := omega) only [SS]) ?_
  refine .next (.s3 d (d.length : Int) 1 1 3 []) ⟨N1, fun m hm R K call => by simp only [f89.step]; exact b1 m hm R _ _⟩ ?_
  refine .ret ⟨N3 + N4 + N5 + 1, fun m hm R K call => ?_⟩
  have b3 : ∀ K, f125 (R := R) m (d.length : Int) 2 K = K (le2 d.length) := b3 m (by omega) R
  have b4 : ∀ K, f125 (R := R) m ((65535 - d.length : Nat) : Int) 2 K = K (le2 (65535 - d.length)) := b4 m (by omega) R
  simp only [f89.step]
  rw [wu64 (by omega), b3, xor_i64 _ (by omega), wu64 (by omega), b4]
  have hl : ∀ n, (le2 n).length = 2 := fun n => rfl
  have hf : ∀ K, f124v2 (R := R) m (le2 d.length ++ le2 (65535 - d.length) ++ d) 1 3 [] K = K 0 0 (ints (stored d)) := by
    intro K
    obtain ⟨k, rfl⟩ : ∃ k, m = k + 1 := ⟨m - 1, by omega⟩
    simp only [f124v2, iter, f124v2.step]
    rw [b5 (k + 1) (by omega)]
    simp (disch := omega) only [SS, hl]
    rfl
  have ht : List.take ((d.length : Int).toNat) d = d := by simp
  have h88 : ∀ K, f88 (R := R) m (some (ints (stored d), ((0 : Int), (0 : Int)))) K = K (stored d) := by
    intro K
    obtain ⟨k, rfl⟩ : ∃ k, m = k + 1 := ⟨m - 1, by omega⟩
    simp only [f88, iter, f88.step, deref]
    simp (disch := omega) only [SS, bytesOf_map]
  rw [ht]
  simp (disch := omega) only [SS, hl, hf, h88]

/-! #### The loop -/
abbrev DfS := List UInt8
structure DfI (d : List UInt8) (a acc cnt : Nat) (mp : List (List UInt8 × Int)) (out : List UInt8) : Prop where
  ha : a ≤ d.length
  hd : d.length ≤ 1500
  hw : ∃ B, WR ([true, true, false] ++ B) acc cnt out ∧ Dv B (d.take a) ∧ B.length ≤ 50 * a
  hm : ∀ e ∈ mp, 0 ≤ e.2 ∧ e.2 < (a : Int)
abbrev K1T (R : Type) := List UInt8 → Option R
abbrev f46S (d : List UInt8) (a acc cnt : Nat) (mp : List (List UInt8 × Int)) (out : List UInt8) : f46.St := .s1 d (some tabL) (some tabD) (a : Int) (acc : Int) (cnt : Int) mp (ints out)
/-- What Deflate may write. -/
def Fx (d r : List UInt8) : Prop := r = stored d ∨ ∃ B pad, Dv B d ∧ B.length ≤ 50 * d.length ∧ bb r = [true, true, false] ++ B ++ cdL 256 ++ pad ∧ pad.length < 8 ∧ r.length ≤ (stored d).length
abbrev f46L (s : f46.St) (r : List UInt8) : Prop := Lp (κ := K1T) (fun R m K => f46.step m K) s (fun R K => K r)
theorem f46_lit {acc cnt : Nat} {out : List UInt8} {B : List Bool} (h : WR ([true, true, false] ++ B) acc cnt out) (hB : B.length ≤ 90000) (c : Nat) (hc : c < 288) :
    ∃ acc' cnt' out', WR ([true, true, false] ++ (B ++ cdL c)) acc' cnt' out' ∧ ∃ N, ∀ m, N ≤ m → ∀ R (K : K3 R), f83 m (some tabL) (c : Int) (fun x y => f84 m x y (acc : Int) (cnt : Int) (ints out) K K) = K (acc' : Int) (cnt' : Int) (ints out') := by
  obtain ⟨N1, e1⟩ := f83_L c hc
  have hl := cdL_len c hc
  have hv : val (cdL c).reverse < 2 ^ 32 := Nat.lt_of_lt_of_le (val_lt _) (pow_le (by simp; omega))
  obtain ⟨a', c', o', w, N2, e2⟩ := f84_ev h (cdL c).length (val (cdL c).reverse) hv (by omega) (by omega) (by simp; omega)
  rw [msb_val, List.append_assoc] at w
  refine ⟨a', c', o', w, N1 + N2, fun m hm R K => ?_⟩
  have e1 := e1 m (by omega) R
  have e2 := e2 m (by omega) R K
  exact (e1 _).trans e2
end Go.Proofs.YtidncoebfnabcaaGreatDoor
namespace Go.Proofs.YtidncoebfnabcaaGreatDoor
open Go.AM

theorem f82_same {B : List Bool} {acc cnt : Nat} {out : List UInt8} (h : WR B acc cnt out) (v n : Nat) (hv : v < 2 ^ 32) (hn : n ≤ 32) (ho : out.length ≤ 100000) :
    ∃ acc' cnt' out', WR (B ++ bitsOf n v) acc' cnt' out' ∧ ∃ N, ∀ m, N ≤ m → ∀ R (K : K3 R), f82v2 m (v : Int) (n : Int) (acc : Int) (cnt : Int) (ints out) K K = K (acc' : Int) (cnt' : Int) (ints out') := by
  obtain ⟨a, c, o, b, w, N, e⟩ := f82_ev h v n hv hn ho
  exact ⟨a, c, o, w, N, fun m hm R K => by rw [e m hm R K K]; cases b <;> rfl⟩
theorem WR.out_le {B : List Bool} {acc cnt : Nat} {out : List UInt8} (h : WR B acc cnt out) : 8 * out.length ≤ B.length := by have := h.len; omega

theorem f46_end {d : List UInt8} {acc cnt : Nat} {mp : List (List UInt8 × Int)} {out : List UInt8} (h : DfI d d.length acc cnt mp out) : ∃ r, Fx d r ∧ f46L (f46S d d.length acc cnt mp out) r := by
  obtain ⟨_, hd, ⟨B, hw, hv, hb⟩, _⟩ := h
  obtain ⟨a', c', o', w, N1, e1⟩ := f46_lit hw (by omega) 256 (by omega)
  have hl := cdL_len 256 (by omega)
  obtain ⟨r, pad, hr, hp, N2, e2⟩ := f88_ev w (by simp; omega)
  obtain ⟨N3, e3⟩ := f89_ev d (by omega)
  rw [List.take_of_length_le (Nat.le_refl _)] at hv
  have hF : (r.length : Int) < (stored d).length → Fx d r := fun hlt => .inr ⟨B, pad, hv, hb, by rw [hr]; simp, hp, by omega⟩
  have hs5 : ∃ r', Fx d r' ∧ f46L (.s5 d (a' : Int) (c' : Int) (ints o')) r' := by
    by_cases hlt : (r.length : Int) < (stored d).length
    · refine ⟨r, hF hlt, .ret ⟨N2 + N3, fun m hm R K call => ?_⟩⟩
      have e2 := e2 m (by omega) R
      have e3 := e3 m (by omega) R
      simp only [f46.step]
      refine (e2 _).trans ((e3 _).trans ?_)
      dsimp only
      rw [dt hlt]; rfl
    · refine ⟨stored d, .inl rfl, .ret ⟨N2 + N3, fun m hm R K call => ?_⟩⟩
      have e2 := e2 m (by omega) R
      have e3 := e3 m (by omega) R
      simp only [f46.step]
      refine (e2 _).trans ((e3 _).trans ?_)
      dsimp only
      rw [df hlt]
      exact e3 _
  obtain ⟨r', hF', hl'⟩ := hs5
  refine ⟨r', hF', .next _ ⟨N1, fun m hm R K call => ?_⟩ hl'⟩
  simp only [f46.step]
  simp (disch := omega) only [SS]
  exact e1 m hm R _

theorem f46_s2 {d : List UInt8} {a p : Nat} {acc cnt : Int} {mp : List (List UInt8 × Int)} {out : List Int} (hd : d.length ≤ 1500) (hp : p < a) (T1 T2 : Option TabT) : ∀ t i, 258 - i ≤ t → i ≤ 258 → a + i ≤ d.length → (∀ j, j < i → d.getD (p + j) 0 = d.getD (a + j) 0) →
    ∃ i', i' ≤ 258 ∧ a + i' ≤ d.length ∧ (∀ j, j < i' → d.getD (p + j) 0 = d.getD (a + j) 0) ∧ ∀ r, f46L (.s3 d T1 T2 (a : Int) (i' : Int) ((a - p : Nat) : Int) acc cnt mp out) r → f46L (.s2 d T1 T2 (a : Int) (i : Int) (p : Int) acc cnt mp out) r := by
  intro t
  induction t with
  | zero =>
    intro i ht hi ha hm
    refine ⟨i, hi, ha, hm, fun r hr => .next0 _ (fun m R K call => ?_) hr⟩
    have e : ((a - p : Nat) : Int) = (a : Int) - (p : Int) := by omega
    simp (disch := omega) only [SS, f46.step, e]
  | succ t ih =>
    intro i ht hi ha hm
    have e : ((a - p : Nat) : Int) = (a : Int) - (p : Int) := by omega
    by_cases h1 : i < 258
    · by_cases h2 : a + i < d.length
      · have q1 : ((p : Int) + (i : Int)).toNat = p + i := by omega
        have q2 : ((a : Int) + (i : Int)).toNat = a + i := by omega
        by_cases h3 : d.getD (p + i) 0 = d.getD (a + i) 0
        · obtain ⟨i', g1, g2, g3, g4⟩ := ih (i + 1) (by omega) (by omega) (by omega) (fun j hj => by
            by_cases hji : j = i
            · subst hji; exact h3
            · exact hm j (by omega))
          refine ⟨i', g1, g2, g3, fun r hr => .next0 _ (fun m R K call => ?_) (g4 r hr)⟩
          simp (disch := omega) only [SS, f46.step, q1, q2, h3]
          rfl
        · refine ⟨i, hi, ha, hm, fun r hr => .next0 _ (fun m R K call => ?_) hr⟩
          have h4 : ¬ (((d.getD (p + i) 0).toNat : Int) = ((d.getD (a + i) 0).toNat : Int)) := by
            intro h; exact h3 (UInt8.toNat_inj.1 (by omega))
          simp (disch := omega) only [SS, f46.step, q1, q2, h4, e]
      · refine ⟨i, hi, ha, hm, fun r hr => .next0 _ (fun m R K call => ?_) hr⟩
        simp (disch := omega) only [SS, f46.step, e]
    · refine ⟨i, hi, ha, hm, fun r hr => .next0 _ (fun m R K call => ?_) hr⟩
      simp (disch := omega) only [SS, f46.step, e]

theorem DfI.lit {d : List UInt8} {a acc cnt : Nat} {mp mp' : List (List UInt8 × Int)} {out : List UInt8} (h : DfI d a acc cnt mp out) (ha : a < d.length) (hm' : ∀ e ∈ mp', 0 ≤ e.2 ∧ e.2 < ((a + 1 : Nat) : Int)) :
    ∃ acc' cnt' out', DfI d (a + 1) acc' cnt' mp' out' ∧ ∃ N, ∀ m, N ≤ m → ∀ R (K : K3 R), f83 m (some tabL) (((d.getD a 0).toNat : Nat) : Int) (fun x y => f84 m x y (acc : Int) (cnt : Int) (ints out) K K) = K (acc' : Int) (cnt' : Int) (ints out') := by
  obtain ⟨_, hd, ⟨B, hw, hv, hb⟩, hm⟩ := h
  have hb' := (d.getD a 0).toNat_lt
  obtain ⟨a', c', o', w, N1, e1⟩ := f46_lit hw (by omega) (d.getD a 0).toNat (by omega)
  have hl := cdL_len (d.getD a 0).toNat (by omega)
  exact ⟨a', c', o', ⟨ha, hd, ⟨_, w, by rw [take_succ' d a ha]; exact .lit _ hv, by rw [List.length_append]; omega⟩, hm'⟩, N1, e1⟩

theorem f46_s3 {d : List UInt8} {a acc cnt : Nat} {mp : List (List UInt8 × Int)} {out : List UInt8} (h : DfI d a acc cnt mp out) (h3 : a + 3 ≤ d.length) (i D : Nat)
    (hi : i < 3 ∨ 3 ≤ i ∧ i ≤ 258 ∧ a + i ≤ d.length ∧ 1 ≤ D ∧ D ≤ a ∧ ∀ j, j < i → d.getD (a - D + j) 0 = d.getD (a + j) 0)
    (ih : ∀ a', a < a' → ∀ acc cnt mp out, DfI d a' acc cnt mp out → ∃ r, Fx d r ∧ f46L (f46S d a' acc cnt mp out) r) :
    ∃ r, Fx d r ∧ f46L (.s3 d (some tabL) (some tabD) (a : Int) (i : Int) (D : Int) (acc : Int) (cnt : Int) mp (ints out)) r := by
  have hd := h.hd
  have hga := (d.getD a 0).toNat_lt
  have hmp : ∀ k a', a ≤ a' → ∀ e ∈ mset (fun (a b : List UInt8) => decide (a = b)) mp k (a : Int), 0 ≤ e.2 ∧ e.2 < ((a' + 1 : Nat) : Int) := by
    intro k a' ha' e he
    rcases mset_mem he with h1 | h1
    · have := h.hm e h1; omega
    · omega
  by_cases hi3 : i < 3
  · obtain ⟨a1, c1, o1, hI, N, e1⟩ := h.lit (mp' := mset (fun (a b : List UInt8) => decide (a = b)) mp (List.drop ((a : Int).toNat) (List.take (((a : Int) + 3).toNat) d)) (a : Int)) (by omega) (hmp _ a (Nat.le_refl _))
    obtain ⟨r, hF, hL⟩ := ih (a + 1) (by omega) _ _ _ _ hI
    refine ⟨r, hF, .next (.s4 d (some tabL) (some tabD) (a : Int) (a1 : Int) (c1 : Int) (mset (fun (a b : List UInt8) => decide (a = b)) mp (List.drop ((a : Int).toNat) (List.take (((a : Int) + 3).toNat) d)) (a : Int)) (ints o1)) ⟨N, fun m hm R K call => ?_⟩ (.next0 _ (fun m R K call => by simp (disch := omega) only [SS, f46.step]; rfl) hL)⟩
    simp (disch := omega) only [SS, f46.step]
    exact e1 m hm R _
  · obtain ⟨_, g2, g3, g4, g5, g6⟩ := hi.resolve_left hi3
    obtain ⟨_, _, ⟨B, hw, hv, hb⟩, hm⟩ := h
    have oks := sL_ok i (by omega) (by omega)
    have okd := sD_ok D (by omega) g4
    obtain ⟨a1, c1, o1, w1, N1, e1⟩ := f46_lit hw (by omega) (257 + sL i) (by omega)
    have l1 := cdL_len (257 + sL i) (by omega)
    have hol := w1.out_le
    simp only [List.length_append, List.length_cons, List.length_nil] at hol
    obtain ⟨a2, c2, o2, w2, N2, e2⟩ := f82_same w1 (i - bL (sL i)) (eL (sL i)) (by omega) (by omega) (by omega)
    obtain ⟨N3, e3⟩ := f85v2_ev D g4 (by omega)
    obtain ⟨N4, e4⟩ := f83_D (sD D) (by omega)
    have l4 := cdD_len (sD D) (by omega)
    have hv4 : val (cdD (sD D)).reverse < 2 ^ 32 := Nat.lt_of_lt_of_le (val_lt _) (pow_le (by simp; omega))
    obtain ⟨a5, c5, o5, w5, N5, e5⟩ := f84_ev w2 (cdD (sD D)).length (val (cdD (sD D)).reverse) hv4 (by omega) (by omega) (by simp [bitsOf_length]; omega)
    rw [msb_val] at w5
    have hol5 := w5.out_le
    simp only [List.length_append, List.length_cons, List.length_nil, bitsOf_length] at hol5
    obtain ⟨a6, c6, o6, w6, N6, e6⟩ := f82_same w5 (D - bD (sD D)) (eD (sD D)) (by omega) (by omega) (by omega)
    obtain ⟨N7, e7⟩ := f85_ev i (by omega) (by omega)
    have hI : DfI d (a + i) a6 c6 (mset (fun (a b : List UInt8) => decide (a = b)) mp (List.drop ((a : Int).toNat) (List.take (((a : Int) + 3).toNat) d)) (a : Int)) o6 := by
      refine ⟨g3, hd, ⟨B ++ (tokL i ++ tokD D), ?_, ?_, ?_⟩, fun e he => ?_⟩
      · have : [true, true, false] ++ (B ++ (tokL i ++ tokD D)) = [true, true, false] ++ (B ++ cdL (257 + sL i)) ++ bitsOf (eL (sL i)) (i - bL (sL i)) ++ cdD (sD D) ++ bitsOf (eD (sD D)) (D - bD (sD D)) := by simp [tokL, tokD]
        rw [this]; exact w6
      · have ha' : (d.take a).length = a := by rw [List.length_take]; omega
        rw [← ext_take d a D g4 g5 i g3 g6]
        exact .cpy i D hv (by omega) (by omega) g4 (by omega) (by omega)
      · simp only [tokL, tokD, List.length_append, bitsOf_length]; omega
      · have := hmp _ (a + i - 1) (by omega) e he
        have e : a + i - 1 + 1 = a + i := by omega
        rw [e] at this
        exact this
    obtain ⟨r, hF, hL⟩ := ih (a + i) (by omega) _ _ _ _ hI
    refine ⟨r, hF, .next (.s6 d (some tabL) (some tabD) (a : Int) (i : Int) (D : Int) ((i - bL (sL i) : Nat) : Int) (eL (sL i) : Int) (a1 : Int) (c1 : Int) (mset (fun (a b : List UInt8) => decide (a = b)) mp (List.drop ((a : Int).toNat) (List.take (((a : Int) + 3).toNat) d)) (a : Int)) (ints o1)) ⟨N1 + N7, fun m hm R K call => ?_⟩ (.next _ ⟨N2 + N3 + N4 + N5 + N6, fun m hm R K call => ?_⟩ hL)⟩
    · simp (disch := omega) only [SS, f46.step]
      refine (e7 m (by omega) R _).trans ?_
      have q : IntKind.wrap .i64 (257 + (sL i : Int)) = ((257 + sL i : Nat) : Int) := by rw [w64 (by omega)]; omega
      simp only [q]
      exact e1 m (by omega) R _
    · simp only [f46.step]
      refine (e2 m (by omega) R _).trans ?_
      refine (e3 m (by omega) R _).trans ?_
      refine (e4 m (by omega) R _).trans ?_
      refine (e5 m (by omega) R _).trans ?_
      refine (e6 m (by omega) R _).trans ?_
      simp (disch := omega) only [SS]
      rfl

theorem f46_main {d : List UInt8} : ∀ n a, d.length - a ≤ n → ∀ acc cnt mp out, DfI d a acc cnt mp out → ∃ r, Fx d r ∧ f46L (f46S d a acc cnt mp out) r := by
  intro n
  induction n with
  | zero =>
    intro a hn acc cnt mp out h
    obtain rfl : a = d.length := by have := h.ha; omega
    exact f46_end h
  | succ n ih =>
    intro a hn acc cnt mp out h
    by_cases he : a = d.length
    · subst he; exact f46_end h
    have ha := h.ha
    have hd := h.hd
    have hga := (d.getD a 0).toNat_lt
    have ih' : ∀ a', a < a' → ∀ acc cnt mp out, DfI d a' acc cnt mp out → ∃ r, Fx d r ∧ f46L (f46S d a' acc cnt mp out) r := fun a' h' => ih a' (by omega)
    by_cases h3 : a + 3 ≤ d.length
    · have q : ((a : Int) + 3).toNat = a + 3 := by omega
      cases hg : mget (fun (a b : List UInt8) => decide (a = b)) mp (List.drop a (List.take (a + 3) d)) with
      | none =>
        obtain ⟨r, hF, hL⟩ := f46_s3 h h3 0 0 (.inl (by omega)) ih'
        refine ⟨r, hF, .next0 _ (fun m R K call => ?_) hL⟩
        simp (disch := omega) only [SS, f46.step, q, hg, Option.isSome_none]
        rfl
      | some p =>
        obtain ⟨e, he', hp⟩ := mget_mem hg
        have hb := h.hm e he'
        rw [hp] at hb
        obtain ⟨p, rfl⟩ : ∃ q : Nat, p = q := ⟨p.toNat, by omega⟩
        obtain ⟨i', g1, g2, g3, g4⟩ := f46_s2 (acc := acc) (cnt := cnt) (mp := mp) (out := ints out) hd (show p < a by omega) (some tabL) (some tabD) 258 0 (by omega) (by omega) (by omega) (fun j hj => by omega)
        obtain ⟨r, hF, hL⟩ := f46_s3 h h3 i' (a - p) (by
          by_cases hi : i' < 3
          · exact .inl hi
          · refine .inr ⟨by omega, g1, g2, by omega, by omega, fun j hj => ?_⟩
            rw [show a - (a - p) + j = p + j by omega]
            exact g3 j hj) ih'
        refine ⟨r, hF, .next0 _ (fun m R K call => ?_) (g4 r hL)⟩
        simp (disch := omega) only [SS, f46.step, q, hg, Option.isSome_some, Option.getD_some]
        rfl
    · obtain ⟨a1, c1, o1, hI, N, e1⟩ := h.lit (mp' := mp) (by omega) (fun e he => by have := h.hm e he; omega)
      obtain ⟨r, hF, hL⟩ := ih' (a + 1) (by omega) _ _ _ _ hI
      refine ⟨r, hF, .next (.s4 d (some tabL) (some tabD) (a : Int) (a1 : Int) (c1 : Int) mp (ints o1)) ⟨N, fun m hm R K call => ?_⟩ (.next0 _ (fun m R K call => by simp (disch := omega) only [SS, f46.step]; rfl) hL)⟩
      simp (disch := omega) only [SS, f46.step]
      exact e1 m hm R _
theorem f46_ev (d : List UInt8) (hd : d.length ≤ 1500) : ∃ r, Fx d r ∧ Ev (fun R m K => f46 m d K) (fun R K => K r) := by
  obtain ⟨r, hF, hL⟩ := f46_main (d := d) d.length 0 (by omega) 3 3 [] [] ⟨by omega, hd, ⟨[], ⟨by omega, by decide, by decide⟩, by simpa using Dv.nil, by simp⟩, by simp⟩
  obtain ⟨N, e⟩ := f81_ev
  refine ⟨r, hF, Lp.ev (step := fun R m K => f46.step m K) (.next _ ⟨N + 5, fun m hm R K call => ?_⟩ hL)⟩
  simp only [f46.step]
  refine (e m (by omega) R _).trans ?_
  obtain ⟨k, rfl⟩ : ∃ k, m = k + 5 := ⟨m - 5, by omega⟩
  kernel_rfl
end Go.Proofs.YtidncoebfnabcaaGreatDoor
namespace Go.Proofs.YtidncoebfnabcaaGreatDoor
open Go.AM

/-! ### The reference reads symbols -/
theorem f153_lp : ∀ (y x p : List Bool), y.length ≤ x.length → p.length + x.length ≤ 1000000 → Lp (fun R m K => f153.step m K) (.s1 (p ++ x) (p ++ y) ((p ++ y).length : Int) (p.length : Int)) (fun R K => K (y.isPrefixOf x))
  | [], x, p, h, hl => .ret0 fun m R K call => by
    simp (disch := omega) only [SS, f153.step, List.append_nil]
    rfl
  | b :: y, [], p, h, hl => by simp at h
  | b :: y, a :: x, p, h, hl => by
    by_cases hab : b = a
    · subst hab
      have := f153_lp y x (p ++ [b]) (by simpa using h) (by simp at hl ⊢; omega)
      rw [List.append_assoc, List.append_assoc] at this
      simp only [List.length_cons] at hl
      refine .next0 _ (fun m R K call => ?_) (by simpa using this)
      simp (disch := omega) only [SS, f153.step, getD_mid]
      simp
    · refine .ret0 fun m R K call => ?_
      simp only [List.length_cons] at hl
      simp (disch := omega) only [SS, f153.step, getD_mid]
      have e : (b == a) = false := by simpa using hab
      simp [e, List.isPrefixOf]
theorem f153_ev (x y : List Bool) (h : x.length ≤ 1000000) : Ev (fun R m K => f153 m x y K) (fun R K => K (y.isPrefixOf x)) := Lp.ev (step := fun R m K => f153.step m K) <| by
  by_cases hl : x.length < y.length
  · refine .ret0 fun m R K call => ?_
    have : y.isPrefixOf x = false := by
      cases e : y.isPrefixOf x with
      | false => rfl
      | true => have := (List.isPrefixOf_iff_prefix.1 e).length_le; omega
    simp (disch := omega) only [SS, f153.step, this]
  · refine .next0 _ (fun m R K call => ?_) (by simpa using f153_lp y x [] (by omega) (by simpa using h))
    simp (disch := omega) only [SS, f153.step]
theorem f126_lp (C : List (List Bool)) (w : List Bool) (s : Nat) (hs : s < C.length) (hC : C.length ≤ 1000) (hw : w.length ≤ 1000000) (hp : ∀ i, i < s → 0 < (C.getD i []).length ∧ (C.getD i []).isPrefixOf w = false) (h0 : 0 < (C.getD s []).length) (h1 : (C.getD s []).isPrefixOf w = true) :
    ∀ n i seen, s - i ≤ n → i ≤ s → Lp (fun R m K => f126.step m K) (.s1 C w seen C (C.length : Int) (i : Int)) (fun R K => K (s : Int) ((C.getD s []).length : Int) 0) := by
  intro n
  induction n with
  | zero =>
    intro i seen hn hi
    obtain rfl : i = s := by omega
    obtain ⟨N, e⟩ := f153_ev w (C.getD i []) hw
    refine .ret ⟨N, fun m hm R K call => ?_⟩
    simp (disch := omega) only [SS, f126.step]
    refine (e m hm R _).trans ?_
    simp only [h1, cond_true]
  | succ n ih =>
    intro i seen hn hi
    by_cases his : i = s
    · subst his
      obtain ⟨N, e⟩ := f153_ev w (C.getD i []) hw
      refine .ret ⟨N, fun m hm R K call => ?_⟩
      simp (disch := omega) only [SS, f126.step]
      refine (e m hm R _).trans ?_
      simp only [h1, cond_true]
    · obtain ⟨g0, g1⟩ := hp i (by omega)
      obtain ⟨N, e⟩ := f153_ev w (C.getD i []) hw
      refine .next _ ⟨N, fun m hm R K call => ?_⟩ (ih (i + 1) true (by omega) (by omega))
      simp (disch := omega) only [SS, f126.step]
      refine (e m hm R _).trans ?_
      simp only [g1, cond_false]
      rfl
def pf : List (List Bool) → Bool
  | [] => true
  | c :: cs => cs.all (fun d => !c.isPrefixOf d && !d.isPrefixOf c && !c.isEmpty) && pf cs
theorem pf_at : ∀ (C : List (List Bool)), pf C = true → ∀ i s, i < s → s < C.length → (C.getD i []).isPrefixOf (C.getD s []) = false ∧ (C.getD s []).isPrefixOf (C.getD i []) = false ∧ 0 < (C.getD i []).length
  | [], _, i, s, _, hs => by simp at hs
  | c :: cs, h, i, s, hi, hs => by
    simp only [pf, Bool.and_eq_true, List.all_eq_true] at h
    cases s with
    | zero => omega
    | succ s =>
      cases i with
      | zero =>
        have hs' : s < cs.length := by simpa using hs
        have := h.1 (cs.getD s []) (by simp [hs'])
        simp only [Bool.and_eq_true, Bool.not_eq_true'] at this
        refine ⟨this.1.1, this.1.2, ?_⟩
        have h2 := this.2
        cases c with
        | nil => simp at h2
        | cons => simp
      | succ i => simpa using pf_at cs h.2 i s (by omega) (by simpa using hs)
theorem pf_L : pf codL = true := by decide +kernel
theorem pf_D : pf codD = true := by decide +kernel
theorem isPrefixOf_app {x y z : List Bool} (h1 : x.isPrefixOf y = false) (h2 : y.isPrefixOf x = false) : x.isPrefixOf (y ++ z) = false := by
  induction x generalizing y with
  | nil => simp at h1
  | cons a x ih =>
    cases y with
    | nil => simp at h2
    | cons b y =>
      simp only [List.isPrefixOf, Bool.and_eq_false_iff, List.cons_append] at h1 h2 ⊢
      by_cases hab : a = b
      · subst hab
        simp only [beq_self_eq_true, Bool.true_eq_false, false_or] at h1 h2 ⊢
        exact ih h1 h2
      · exact .inl (by simpa using hab)
theorem f94_gen (C : List (List Bool)) (hC : C.length ≤ 1000) (hpf : pf C = true) (X P Z : List Bool) (s : Nat) (hs : s < C.length) (hc : 0 < (C.getD s []).length) (hc' : (C.getD s []).length ≤ 15) (hX : X = P ++ C.getD s [] ++ Z) (hl : X.length ≤ 1000000) (lim : Int) (out : List Int) :
    Ev (fun R m K => f94 m C X (P.length : Int) lim 0 out K) (fun R K => K (s : Int) X ((P.length + (C.getD s []).length : Nat) : Int) lim 0 out) := Lp.ev (step := fun R m K => f94.step m K) <| by
  have hlen : X.length = P.length + (C.getD s []).length + Z.length := by rw [hX]; simp only [List.length_append]
  obtain ⟨n, hn, hn1, hn2, hn3⟩ : ∃ n : Nat, (if (X.length : Int) < (P.length : Int) + 16 then (X.length : Int) else (P.length : Int) + 16) = (n : Int) ∧ P.length + (C.getD s []).length ≤ n ∧ n ≤ X.length ∧ n ≤ 1000000 := by
    by_cases h : (X.length : Int) < (P.length : Int) + 16
    · exact ⟨X.length, by rw [if_pos h], by omega, by omega, by omega⟩
    · exact ⟨P.length + 16, by rw [if_neg h]; rfl, by omega, by omega, by omega⟩
  have hw : List.drop P.length (List.take n X) = C.getD s [] ++ Z.take (n - P.length - (C.getD s []).length) := by
    rw [List.drop_take, hX, List.append_assoc, List.drop_left, List.take_append, List.take_of_length_le (by omega)]
  have hlp := f126_lp C (C.getD s [] ++ Z.take (n - P.length - (C.getD s []).length)) s hs hC (by rw [List.length_append, List.length_take]; omega) (fun i hi => by
    obtain ⟨g1, g2, g3⟩ := pf_at C hpf i s hi hs
    exact ⟨g3, isPrefixOf_app g1 g2⟩) hc (List.isPrefixOf_iff_prefix.2 (List.prefix_append _ _)) s 0 false (by omega) (by omega)
  have hev : Ev (fun R m K => f126 m C (C.getD s [] ++ Z.take (n - P.length - (C.getD s []).length)) K) (fun R K => K (s : Int) ((C.getD s []).length : Int) 0) := Lp.ev (step := fun R m K => f126.step m K) (.next0 _ (fun m R K call => rfl) hlp)
  obtain ⟨N, e⟩ := hev
  refine .ret ⟨N, fun m hm R K call => ?_⟩
  simp only [f94.step]
  rw [w64 (n := (P.length : Int) + 16) (by omega), hn]
  simp (disch := omega) only [SS]
  rw [hw]
  refine (e m hm R _).trans ?_
  simp (disch := omega) only [SS]
  rfl
theorem f94_L (X P Z : List Bool) (s : Nat) (hs : s < 288) (hX : X = P ++ cdL s ++ Z) (hl : X.length ≤ 1000000) (lim : Int) (out : List Int) :
    Ev (fun R m K => f94 m codL X (P.length : Int) lim 0 out K) (fun R K => K (s : Int) X ((P.length + (cdL s).length : Nat) : Int) lim 0 out) := by
  have := cdL_len s hs
  have h288 : codL.length = 288 := by decide +kernel
  exact f94_gen codL (by omega) pf_L X P Z s (by omega) (by show 0 < (cdL s).length; omega) (by show (cdL s).length ≤ 15; omega) hX hl lim out
theorem f94_D (X P Z : List Bool) (s : Nat) (hs : s < 32) (hX : X = P ++ cdD s ++ Z) (hl : X.length ≤ 1000000) (lim : Int) (out : List Int) :
    Ev (fun R m K => f94 m codD X (P.length : Int) lim 0 out K) (fun R K => K (s : Int) X ((P.length + (cdD s).length : Nat) : Int) lim 0 out) := by
  have := cdD_len s hs
  have h32 : codD.length = 32 := by decide +kernel
  exact f94_gen codD (by omega) pf_D X P Z s (by omega) (by show 0 < (cdD s).length; omega) (by show (cdD s).length ≤ 15; omega) hX hl lim out
theorem f53v2_at (X P Z : List Bool) (n v : Nat) (hX : X = P ++ bitsOf n v ++ Z) (hv : v < 2 ^ n) (hn : n ≤ 30) (hl : X.length ≤ 1000000) (lim : Int) (out : List Int) :
    Ev (fun R m K => f53v2 m (n : Int) X (P.length : Int) lim 0 out K) (fun R K => K (v : Int) X ((P.length + n : Nat) : Int) lim 0 out) := by
  subst hX
  simp only [List.length_append, bitsOf_length] at hl
  have := f53v2_ev P Z n v lim out hn (by omega)
  rwa [Nat.mod_eq_of_lt hv] at this
theorem f91_ev (b : Int) (X : List Bool) (p : Int) (lim : Nat) (out : List Int) (h : out.length < lim) (hl : lim ≤ 1000000) : ∃ N, ∀ m, N ≤ m → ∀ R (K0 K1 : List Bool → Int → Int → Int → List Int → Option R), f91v2 m b X p lim 0 out K0 K1 = K0 X p lim 0 (out ++ [b]) := ⟨1, fun m hm R K0 K1 => by
  obtain ⟨k, rfl⟩ : ∃ k, m = k + 1 := ⟨m - 1, by omega⟩
  simp only [f91v2, iter, f91v2.step]
  simp (disch := omega) only [SS]⟩
end Go.Proofs.YtidncoebfnabcaaGreatDoor
namespace Go.Proofs.YtidncoebfnabcaaGreatDoor
open Go.AM

/-! ### The reference inflates -/
abbrev K5 (R : Type) := List Bool → Int → Int → Int → List Int → Option R
abbrev fs1 (X : List Bool) (p lim : Nat) (out : List UInt8) : f56.St := .s1 codL codD basL extL basD extD X (p : Int) (lim : Int) 0 (ints out)
abbrev fs2 (X : List Bool) (p lim : Nat) (out : List UInt8) : f56.St := .s2 codL codD basL extL basD extD X (p : Int) (lim : Int) 0 (ints out)
def fst (X : List Bool) (p lim : Nat) (out : List UInt8) : f56.St := if out = [] then fs1 X p lim out else fs2 X p lim out
abbrev f56P (s : f56.St) (res : ∀ R, K5 R → Option R) : Prop := Lp (κ := K5) (fun R m K => f56.step m K K) s res
theorem getD_ints (l : List UInt8) (i : Nat) : (ints l).getD i 0 = ((l.getD i 0).toNat : Int) := by
  simp only [ints, List.getD_eq_getElem?_getD, List.getElem?_map]
  cases l[i]? <;> rfl
theorem ints_snoc (l : List UInt8) (b : UInt8) : ints l ++ [(b.toNat : Int)] = ints (l ++ [b]) := by simp [ints]
theorem fst_ne {X : List Bool} {p lim : Nat} {out : List UInt8} (h : out ≠ []) : fst X p lim out = fs2 X p lim out := if_neg h

theorem ref_lit {X P Z : List Bool} {lim : Nat} {pre : List UInt8} {res : ∀ R, K5 R → Option R} (b : UInt8) (hX : X = P ++ cdL b.toNat ++ Z) (hl : X.length ≤ 1000000) (hlim : pre.length < lim) (hlim' : lim ≤ 100000)
    (h : f56P (fst X (P.length + (cdL b.toNat).length) lim (pre ++ [b])) res) : f56P (fst X P.length lim pre) res := by
  have hb := b.toNat_lt
  obtain ⟨N1, e1⟩ := f94_L X P Z b.toNat (by omega) hX hl lim (ints pre)
  obtain ⟨N2, e2⟩ := f91_ev (b.toNat : Int) X ((P.length + (cdL b.toNat).length : Nat) : Int) lim (ints pre) (by simpa using hlim) (by omega)
  rw [fst_ne (by simp)] at h
  by_cases hp : pre = []
  · subst hp
    refine .next _ ⟨N1 + N2, fun m hm R K call => ?_⟩ h
    simp only [fst, if_true, f56.step]
    simp (disch := omega) only [SS]
    refine (e1 m (by omega) R _).trans ?_
    simp (disch := omega) only [SS, w8]
    refine (e2 m (by omega) R _ _).trans ?_
    rw [ints_snoc]
  · rw [fst_ne hp]
    refine .next _ ⟨N1 + N2, fun m hm R K call => ?_⟩ h
    simp only [f56.step]
    simp (disch := omega) only [SS]
    refine (e1 m (by omega) R _).trans ?_
    simp (disch := omega) only [SS, w8]
    refine (e2 m (by omega) R _ _).trans ?_
    rw [ints_snoc]
theorem ref_loop {X : List Bool} {p lim : Nat} {pre : List UInt8} {res : ∀ R, K5 R → Option R} (L D : Nat) (hD : 1 ≤ D) (hDp : D ≤ pre.length) (hlim : pre.length + L ≤ lim) (hlim' : lim ≤ 100000)
    (h : f56P (fs2 X p lim (ext pre D L)) res) : ∀ n i, L - i ≤ n → i ≤ L → f56P (.s6 codL codD basL extL basD extD (L : Int) (D : Int) (i : Int) X (p : Int) (lim : Int) 0 (ints (ext pre D i))) res := by
  intro n
  have hend : f56P (.s6 codL codD basL extL basD extD (L : Int) (D : Int) (L : Int) X (p : Int) (lim : Int) 0 (ints (ext pre D L))) res :=
    .next0 _ (fun m R K call => by simp (disch := omega) only [SS, f56.step]) h
  induction n with
  | zero =>
    intro i hn hi
    obtain rfl : i = L := by omega
    exact hend
  | succ n ih =>
    intro i hn hi
    by_cases hiL : i = L
    · subst hiL; exact hend
    have hel := ext_length pre D i
    obtain ⟨N2, e2⟩ := f91_ev (((ext pre D i).getD ((ext pre D i).length - D) 0).toNat : Int) X (p : Int) lim (ints (ext pre D i)) (by simp; omega) (by omega)
    refine .next _ ⟨N2, fun m hm R K call => ?_⟩ (ih (i + 1) (by omega) (by omega))
    have q : (((pre.length + i : Nat) : Int) - (D : Int)).toNat = pre.length + i - D := by omega
    simp only [f56.step, List.length_map, hel]
    rw [hel] at e2
    simp (disch := omega) only [SS, q, getD_ints]
    refine (e2 m hm R _ _).trans ?_
    rw [ints_snoc, ext, hel]
    rfl
theorem ext_at : ∀ s, s < 29 → extL.getD s 0 = (eL s : Int) ∧ basL.getD s 0 = (bL s : Int) := by decide
theorem ext_atD : ∀ s, s < 30 → extD.getD s 0 = (eD s : Int) ∧ basD.getD s 0 = (bD s : Int) := by decide
theorem ref_cpy {X P Z : List Bool} {lim : Nat} {pre : List UInt8} {res : ∀ R, K5 R → Option R} (L D : Nat) (hX : X = P ++ (tokL L ++ tokD D) ++ Z) (hl : X.length ≤ 1000000) (hL : 3 ≤ L) (hL' : L < 259) (hD : 1 ≤ D) (hDp : D ≤ pre.length) (hD' : D < 2000) (hlim : pre.length + L ≤ lim) (hlim' : lim ≤ 100000)
    (h : f56P (fst X (P.length + (tokL L ++ tokD D).length) lim (ext pre D L)) res) : f56P (fst X P.length lim pre) res := by
  have oks := sL_ok L hL' hL
  have okd := sD_ok D hD' hD
  have l1 := cdL_len (257 + sL L) (by omega)
  have l4 := cdD_len (sD D) (by omega)
  obtain ⟨x1, x2⟩ := ext_at (sL L) (by omega)
  obtain ⟨x3, x4⟩ := ext_atD (sD D) (by omega)
  have hpn : pre ≠ [] := by intro e; subst e; simp at hDp; omega
  have hXl : P.length + (cdL (257 + sL L)).length + eL (sL L) + (cdD (sD D)).length + eD (sD D) + Z.length = X.length := by rw [hX]; simp [tokL, tokD, bitsOf_length]; omega
  obtain ⟨N1, e1⟩ := f94_L X P (bitsOf (eL (sL L)) (L - bL (sL L)) ++ tokD D ++ Z) (257 + sL L) (by omega) (by rw [hX]; simp [tokL]) hl lim (ints pre)
  obtain ⟨N2, e2⟩ := f53v2_at X (P ++ cdL (257 + sL L)) (tokD D ++ Z) (eL (sL L)) (L - bL (sL L)) (by rw [hX]; simp [tokL]) (by omega) (by omega) hl lim (ints pre)
  obtain ⟨N3, e3⟩ := f94_D X (P ++ cdL (257 + sL L) ++ bitsOf (eL (sL L)) (L - bL (sL L))) (bitsOf (eD (sD D)) (D - bD (sD D)) ++ Z) (sD D) (by omega) (by rw [hX]; simp [tokL, tokD]) hl lim (ints pre)
  obtain ⟨N4, e4⟩ := f53v2_at X (P ++ cdL (257 + sL L) ++ bitsOf (eL (sL L)) (L - bL (sL L)) ++ cdD (sD D)) Z (eD (sD D)) (D - bD (sD D)) (by rw [hX]; simp [tokL, tokD]) (by omega) (by omega) hl lim (ints pre)
  simp only [List.length_append, bitsOf_length] at e2 e3 e4
  rw [fst_ne (by intro e; have := ext_length pre D L; rw [e] at this; simp at this; omega)] at h
  rw [fst_ne hpn]
  have hend : P.length + (tokL L ++ tokD D).length = P.length + (cdL (257 + sL L)).length + eL (sL L) + (cdD (sD D)).length + eD (sD D) := by simp [tokL, tokD, bitsOf_length]; omega
  rw [hend] at h
  have h6 := ref_loop L D hD hDp hlim hlim' h L 0 (by omega) (by omega)
  have h4 : f56P (.s4 codL codD basL extL basD extD (L : Int) (sD D : Int) X ((P.length + (cdL (257 + sL L)).length + eL (sL L) + (cdD (sD D)).length : Nat) : Int) (lim : Int) 0 (ints pre)) res := by
    refine .next _ ⟨N4, fun m hm R K call => ?_⟩ h6
    simp only [f56.step]
    have b1 : basD.length = 30 := rfl
    have b2 : extD.length = 30 := rfl
    simp (disch := omega) only [SS, b1, b2, x3, x4]
    refine (e4 m hm R _).trans ?_
    have q : IntKind.wrap .i64 ((bD (sD D) : Int) + ((D - bD (sD D) : Nat) : Int)) = (D : Int) := by rw [w64 (by omega)]; omega
    simp only [q]
    simp (disch := omega) only [SS]
    rfl
  refine .next _ ⟨N1 + N2 + N3, fun m hm R K call => ?_⟩ h4
  simp only [f56.step]
  simp (disch := omega) only [SS]
  refine (e1 m (by omega) R _).trans ?_
  have b1 : basL.length = 29 := rfl
  have b2 : extL.length = 29 := rfl
  have q1 : IntKind.wrap .i64 (((257 + sL L : Nat) : Int) - 257) = (sL L : Int) := by rw [w64 (by omega)]; omega
  simp only [q1]
  simp (disch := omega) only [SS, b1, b2, x1, x2]
  refine (e2 m (by omega) R _).trans ?_
  have q : IntKind.wrap .i64 ((bL (sL L) : Int) + ((L - bL (sL L) : Nat) : Int)) = (L : Int) := by rw [w64 (by omega)]; omega
  simp only [q]
  refine (e3 m (by omega) R _).trans ?_
  simp (disch := omega) only [SS]
theorem ref_dv {X : List Bool} {lim : Nat} (hl : X.length ≤ 1000000) (hlim' : lim ≤ 100000) {B : List Bool} {pre : List UInt8} (hv : Dv B pre) : ∀ (P Z : List Bool) (res : ∀ R, K5 R → Option R), X = P ++ B ++ Z → pre.length ≤ lim →
    f56P (fst X (P.length + B.length) lim pre) res → f56P (fst X P.length lim []) res := by
  induction hv with
  | nil => intro P Z res hX hlim h; exact h
  | @lit B pre b hv ih =>
    intro P Z res hX hlim h
    simp only [List.length_append, List.length_cons, List.length_nil] at hlim
    refine ih P (cdL b.toNat ++ Z) res (by rw [hX]; simp) (by omega) ?_
    have := ref_lit (X := X) (P := P ++ B) (Z := Z) (lim := lim) (pre := pre) (res := res) b (by rw [hX]; simp) hl (by omega) hlim' (by simpa [Nat.add_assoc] using h)
    simpa using this
  | @cpy B pre L D hv h1 h2 h3 h4 h5 ih =>
    intro P Z res hX hlim h
    rw [ext_length] at hlim
    refine ih P (tokL L ++ tokD D ++ Z) res (by rw [hX]; simp) (by omega) ?_
    have := ref_cpy (X := X) (P := P ++ B) (Z := Z) (lim := lim) (pre := pre) (res := res) L D (by rw [hX]; simp) hl h1 h2 h3 h4 h5 hlim hlim' (by simpa [Nat.add_assoc] using h)
    simpa using this
theorem f56_ev {X P Z B : List Bool} {d : List UInt8} {lim : Nat} (hv : Dv B d) (hX : X = P ++ B ++ cdL 256 ++ Z) (hl : X.length ≤ 1000000) (hlim : d.length ≤ lim) (hlim' : lim ≤ 100000) :
    Ev (κ := K5) (fun R m K => f56 m lenL lenD X (P.length : Int) (lim : Int) 0 [] K K) (fun R K => K X ((P.length + B.length + (cdL 256).length : Nat) : Int) (lim : Int) 0 (ints d)) := Lp.ev (step := fun R m K => f56.step m K K) <| by
  obtain ⟨N1, e1⟩ := f94_L X (P ++ B) Z 256 (by omega) (by rw [hX]) hl lim (ints d)
  have hlast : f56P (fst X (P.length + B.length) lim d) (fun R K => K X ((P.length + B.length + (cdL 256).length : Nat) : Int) (lim : Int) 0 (ints d)) := by
    rw [List.length_append] at e1
    by_cases hd : d = []
    · rw [fst, if_pos hd]
      refine .ret ⟨N1, fun m hm R K call => ?_⟩
      simp only [f56.step]
      simp (disch := omega) only [SS]
      refine (e1 m hm R _).trans ?_
      simp (disch := omega) only [SS]
    · rw [fst, if_neg hd]
      refine .ret ⟨N1, fun m hm R K call => ?_⟩
      simp only [f56.step]
      simp (disch := omega) only [SS]
      refine (e1 m hm R _).trans ?_
      simp (disch := omega) only [SS]
  have := ref_dv hl hlim' hv P (cdL 256 ++ Z) _ (by rw [hX]; simp) hlim hlast
  obtain ⟨N2, e2⟩ := f92_L
  obtain ⟨N3, e3⟩ := f92_D
  obtain ⟨N4, e4⟩ := f93_ev
  refine .next _ ⟨N2 + N3 + N4, fun m hm R K call => ?_⟩ this
  simp only [f56.step]
  refine (e2 m (by omega) R _).trans ?_
  refine (e3 m (by omega) R _).trans ?_
  refine (e4 m (by omega) R _).trans ?_
  rfl
end Go.Proofs.YtidncoebfnabcaaGreatDoor
namespace Go.Proofs.YtidncoebfnabcaaGreatDoor
open Go.AM

/-! ### The reference's stored blocks -/
theorem le2_bits (n : Nat) (h : n < 65536) : bb (le2 n) = bitsOf 16 n := by
  have e1 : (UInt8.ofNat (n % 256)).toNat = n % 256 := by simp
  have e2 : (UInt8.ofNat (n / 256)).toNat = n / 256 := by simp; omega
  rw [show (16 : Nat) = 8 + 8 from rfl, bitsOf_add, ← bitsOf_mod 8 n]
  simp [le2, bb, e1, e2]
theorem stored_bits (d : List UInt8) (h : d.length < 65536) : bb (stored d) = [true, false, false] ++ List.replicate 5 false ++ bitsOf 16 d.length ++ bitsOf 16 (65535 - d.length) ++ bb d := by
  have e : bitsOf 8 (1 : UInt8).toNat = [true, false, false] ++ List.replicate 5 false := by decide
  rw [stored, List.cons_append, bb_cons, bb_append, bb_append, le2_bits _ h, le2_bits _ (by omega), e]
  simp
abbrev f54P (s : f54v2.St) (res : ∀ R, K5 R → Option R) : Prop := Lp (κ := K5) (fun R m K => f54v2.step m K K) s res
theorem f54_loop {X : List Bool} {lim n : Nat} (hl : X.length ≤ 1000000) (hlim' : lim ≤ 100000) : ∀ (l pre : List UInt8) (P Z : List Bool), X = P ++ bb l ++ Z → n = pre.length + l.length → n ≤ lim → ∀ s : f54v2.St,
    (s = .s2 (n : Int) (pre.length : Int) X (P.length : Int) (lim : Int) 0 (ints pre) ∨ s = .s1 (n : Int) (pre.length : Int) X (P.length : Int) (lim : Int) 0 (ints pre)) →
    f54P s (fun R K => K X ((P.length + 8 * l.length : Nat) : Int) (lim : Int) 0 (ints (pre ++ l)))
  | [], pre, P, Z, hX, hn, hlim, s, hs => by
    rcases hs with rfl | rfl
    · exact .ret0 fun m R K call => by
        simp only [List.length_nil] at hn
        simp (disch := omega) only [SS, f54v2.step, List.append_nil]
        rfl
    · exact .ret0 fun m R K call => by
        simp only [List.length_nil] at hn
        simp (disch := omega) only [SS, f54v2.step, List.append_nil]
        rfl
  | b :: l, pre, P, Z, hX, hn, hlim, s, hs => by
    have hb := b.toNat_lt
    simp only [List.length_cons] at hn
    obtain ⟨N1, e1⟩ := f53v2_at X P (bb l ++ Z) 8 b.toNat (by rw [hX, bb_cons]; simp) (by omega) (by omega) hl lim (ints pre)
    obtain ⟨N2, e2⟩ := f91_ev (b.toNat : Int) X ((P.length + 8 : Nat) : Int) lim (ints pre) (by simp; omega) (by omega)
    have ih := f54_loop hl hlim' l (pre ++ [b]) (P ++ bitsOf 8 b.toNat) Z (by rw [hX, bb_cons]; simp) (by simp; omega) hlim (n := n) _ (.inl rfl)
    have q : (P ++ bitsOf 8 b.toNat).length = P.length + 8 := by simp [bitsOf_length]
    have q2 : P.length + 8 + 8 * l.length = P.length + 8 * (b :: l).length := by simp; omega
    rw [q, q2, List.append_assoc] at ih
    have hf : lim ≤ 100000 := hlim'
    rcases hs with rfl | rfl
    · refine .next _ ⟨N1 + N2, fun m hm R K call => ?_⟩ ih
      simp only [f54v2.step]
      simp (disch := omega) only [SS]
      refine (e1 m (by omega) R _).trans ?_
      simp (disch := omega) only [SS, w8]
      refine (e2 m (by omega) R _ _).trans ?_
      rw [ints_snoc]
      simp
    · refine .next _ ⟨N1 + N2, fun m hm R K call => ?_⟩ ih
      simp only [f54v2.step]
      simp (disch := omega) only [SS]
      refine (e1 m (by omega) R _).trans ?_
      simp (disch := omega) only [SS, w8]
      refine (e2 m (by omega) R _ _).trans ?_
      rw [ints_snoc]
      simp
theorem f54_ev {X Z : List Bool} {lim : Nat} (d : List UInt8) (hX : X = bb (stored d) ++ Z) (hl : X.length ≤ 1000000) (hlim : d.length ≤ lim) (hlim' : lim ≤ 65536) (hd : d.length < 65536) :
    Ev (κ := K5) (fun R m K => f54v2 m X 3 (lim : Int) 0 [] K K) (fun R K => K X ((8 * (stored d).length : Nat) : Int) (lim : Int) 0 (ints d)) := Lp.ev (step := fun R m K => f54v2.step m K K) <| by
  rw [stored_bits d hd] at hX
  have h8 : ([true, false, false] ++ List.replicate 5 false : List Bool).length = 8 := rfl
  obtain ⟨N1, e1⟩ := f58_ev 3 (by omega)
  obtain ⟨N2, e2⟩ := f53v2_at X ([true, false, false] ++ List.replicate 5 false) (bitsOf 16 (65535 - d.length) ++ bb d ++ Z) 16 d.length (by rw [hX]; simp) (by omega) (by omega) hl lim []
  obtain ⟨N3, e3⟩ := f53v2_at X ([true, false, false] ++ List.replicate 5 false ++ bitsOf 16 d.length) (bb d ++ Z) 16 (65535 - d.length) (by rw [hX]; simp) (by omega) (by omega) hl lim []
  have := f54_loop (n := d.length) hl (by omega) d [] ([true, false, false] ++ List.replicate 5 false ++ bitsOf 16 d.length ++ bitsOf 16 (65535 - d.length)) Z (by rw [hX]) (by simp) hlim _ (.inr rfl)
  rw [h8] at e2
  rw [List.length_append, h8, bitsOf_length] at e3
  rw [List.length_append, List.length_append, h8, bitsOf_length, bitsOf_length] at this
  have q : 8 + 16 + 16 + 8 * d.length = 8 * (stored d).length := by simp [stored, le2]; try omega
  rw [q] at this
  refine .next _ ⟨N1 + N2 + N3, fun m hm R K call => ?_⟩ this
  simp only [f54v2.step]
  refine (e1 m (by omega) R _).trans ?_
  refine (e2 m (by omega) R _).trans ?_
  refine (e3 m (by omega) R _).trans ?_
  have q : IntKind.wrap .i64 ((d.length : Int) + ((65535 - d.length : Nat) : Int)) = 65535 := by rw [w64 (by omega)]; omega
  simp only [q]
  simp (disch := omega) only [SS]
  rfl

/-! ### Inflate -/
theorem stored_length (d : List UInt8) : (stored d).length = 5 + d.length := by simp [stored, le2]; omega
theorem Fx.len {d r : List UInt8} (h : Fx d r) (hd : d.length ≤ 1500) : 1 ≤ r.length ∧ r.length ≤ 9500 := by
  have h9 := cdL_len 256 (by omega)
  rcases h with rfl | ⟨B, pad, _, hB, hr, hp⟩
  · rw [stored_length]; omega
  · have := congrArg List.length hr
    rw [bb_length] at this
    simp only [List.length_append, List.length_cons, List.length_nil] at this
    omega
theorem f26_tail {X : List Bool} {out : List UInt8} {p n : Nat} (hp : (p + 7) / 8 = n) (hpl : p ≤ 1000000) : Lp (κ := fun R => List UInt8 → Int → Int → Option R) (fun R m K => f26.step m K) (.s3 1 X (p : Int) 65536 0 (ints out)) (fun R K => K out (n : Int) 0) := by
  obtain ⟨N, e⟩ := f58_ev p (by omega)
  refine .ret ⟨N, fun m hm R K call => ?_⟩
  simp only [f26.step]
  simp (disch := omega) only [SS]
  refine (e m hm R _).trans ?_
  have q : (((p + 7) / 8 * 8 : Nat) : Int) / 8 = (n : Int) := by omega
  simp only [bytesOf_map]
  rw [tdv (by omega), q, w64 (by omega)]
theorem f26_ev (x d r ad : List UInt8) (hx : x = [120, 1] ++ r ++ ad) (hF : Fx d r) (hd : d.length ≤ 1500) (had : ad.length ≤ 100) :
    Ev (fun R m K => f26 m x 2 65536 K) (fun R K => K d (r.length : Int) 0) := Lp.ev (step := fun R m K => f26.step m K) <| by
  obtain ⟨hr1, hr⟩ := hF.len hd
  have hdrop : List.drop 2 x = r ++ ad := by rw [hx]; rfl
  have hxl : x.length = r.length + ad.length + 2 := by rw [hx]; simp; try omega
  obtain ⟨N1, e1⟩ := f51_ev (r ++ ad) (by simp; omega)
  have hXl : (bb (r ++ ad)).length = 8 * (r.length + ad.length) := by rw [bb_length]; simp
  have s0 : ∀ res : ∀ R, (List UInt8 → Int → Int → Option R) → Option R, Lp (κ := fun R => List UInt8 → Int → Int → Option R) (fun R m K => f26.step m K) (.s2 (bb (r ++ ad)) 0 65536 0 []) res → Lp (κ := fun R => List UInt8 → Int → Int → Option R) (fun R m K => f26.step m K) (.s0 x 2 65536) res := by
    intro res h
    refine .next (.s1 (bb (r ++ ad)) 0 65536 0 []) ⟨N1, fun m hm R K call => ?_⟩ (.next0 _ (fun m R K call => ?_) h)
    · simp only [f26.step]
      simp (disch := omega) only [SS]
      rw [show ((2 : Int).toNat) = 2 from rfl, hdrop]
      exact e1 m hm R _
    · simp (disch := omega) only [SS, f26.step, hXl]
  refine s0 _ ?_
  rcases hF with rfl | ⟨B, pad, hv, hB, hrb, hp⟩
  · have hX : bb (stored d ++ ad) = bb (stored d) ++ bb ad := bb_append _ _
    obtain ⟨N2, e2⟩ := f53v2_at (bb (stored d ++ ad)) [] ([false, false] ++ List.replicate 5 false ++ bitsOf 16 d.length ++ bitsOf 16 (65535 - d.length) ++ bb d ++ bb ad) 1 1 (by rw [hX, stored_bits d (by omega)]; rfl) (by omega) (by omega) (by omega) 65536 []
    obtain ⟨N3, e3⟩ := f53v2_at (bb (stored d ++ ad)) [true] (List.replicate 5 false ++ bitsOf 16 d.length ++ bitsOf 16 (65535 - d.length) ++ bb d ++ bb ad) 2 0 (by rw [hX, stored_bits d (by omega)]; rfl) (by omega) (by omega) (by omega) 65536 []
    obtain ⟨N4, e4⟩ := f54_ev (X := bb (stored d ++ ad)) (Z := bb ad) (lim := 65536) d hX (by omega) (by omega) (by omega) (by omega)
    have ht := f26_tail (X := bb (stored d ++ ad)) (out := d) (p := 8 * (stored d).length) (n := (stored d).length) (by omega) (by omega)
    refine .next _ ⟨N2 + N3 + N4, fun m hm R K call => ?_⟩ ht
    simp only [f26.step]
    refine (e2 m (by omega) R _).trans ?_
    refine (e3 m (by omega) R _).trans ?_
    simp (disch := omega) only [SS]
    refine (e4 m (by omega) R _).trans ?_
    rfl
  · have hX : bb (r ++ ad) = [true, true, false] ++ B ++ cdL 256 ++ (pad ++ bb ad) := by rw [bb_append, hrb]; simp
    have hlr := congrArg List.length hrb
    rw [bb_length] at hlr
    simp only [List.length_append, List.length_cons, List.length_nil] at hlr
    obtain ⟨N2, e2⟩ := f53v2_at (bb (r ++ ad)) [] ([true, false] ++ B ++ cdL 256 ++ (pad ++ bb ad)) 1 1 (by rw [hX]; rfl) (by omega) (by omega) (by omega) 65536 []
    obtain ⟨N3, e3⟩ := f53v2_at (bb (r ++ ad)) [true] (B ++ cdL 256 ++ (pad ++ bb ad)) 2 1 (by rw [hX]; rfl) (by omega) (by omega) (by omega) 65536 []
    obtain ⟨N4, e4⟩ := f56_ev (lim := 65536) hv hX (by omega) (by omega) (by omega)
    obtain ⟨N5, e5⟩ := f55_ev
    have ht := f26_tail (X := bb (r ++ ad)) (out := d) (p := 3 + B.length + (cdL 256).length) (n := r.length) (by omega) (by omega)
    refine .next _ ⟨N2 + N3 + N4 + N5, fun m hm R K call => ?_⟩ ht
    simp only [f26.step]
    refine (e2 m (by omega) R _).trans ?_
    refine (e3 m (by omega) R _).trans ?_
    simp (disch := omega) only [SS]
    refine (e5 m (by omega) R _).trans ?_
    refine (e4 m (by omega) R _).trans ?_
    rfl

/-! ### Adler and big-endian -/
def adl : Nat → Nat → List UInt8 → Nat × Nat
  | a, b, [] => (a, b)
  | a, b, x :: l => adl ((a + x.toNat) % 65521) ((b + (a + x.toNat) % 65521) % 65521) l
theorem adl_lt : ∀ (l : List UInt8) (a b : Nat), a < 65521 → b < 65521 → (adl a b l).1 < 65521 ∧ (adl a b l).2 < 65521
  | [], a, b, ha, hb => ⟨ha, hb⟩
  | x :: l, a, b, ha, hb => adl_lt l _ _ (Nat.mod_lt _ (by omega)) (Nat.mod_lt _ (by omega))
def adler (d : List UInt8) : Nat := (adl 1 0 d).2 * 65536 + (adl 1 0 d).1
theorem adler_lt (d : List UInt8) : adler d < 4294967296 := by
  have := adl_lt d 1 0 (by omega) (by omega)
  unfold adler; omega
theorem f28_lp : ∀ (l pre : List UInt8) (a b : Nat), a < 65521 → b < 65521 → pre.length + l.length ≤ 100000 → Lp (fun R m K => f28.step m K) (.s1 (pre ++ l) (a : Int) (b : Int) (pre.length : Int)) (fun R K => K (((adl a b l).2 * 65536 + (adl a b l).1 : Nat) : Int))
  | [], pre, a, b, ha, hb, hl => .ret0 fun m R K call => by
    simp (disch := omega) only [SS, f28.step, w32, adl]
    congr 1; omega
  | x :: l, pre, a, b, ha, hb, hl => by
    have hx := x.toNat_lt
    simp only [List.length_cons] at hl
    have e1 : (((a : Int) + (x.toNat : Int)) % 65521) = (((a + x.toNat) % 65521 : Nat) : Int) := by omega
    have h1 : (a + x.toNat) % 65521 < 65521 := Nat.mod_lt _ (by omega)
    have e2 : (((b : Int) + (((a + x.toNat) % 65521 : Nat) : Int)) % 65521) = (((b + (a + x.toNat) % 65521) % 65521 : Nat) : Int) := by omega
    refine .next0 (.s1 (pre ++ [x] ++ l) (((a + x.toNat) % 65521 : Nat) : Int) (((b + (a + x.toNat) % 65521) % 65521 : Nat) : Int) ((pre ++ [x]).length : Int)) (fun m R K call => ?_) (f28_lp l (pre ++ [x]) _ _ h1 (Nat.mod_lt _ (by omega)) (by simp; omega))
    simp (disch := omega) only [SS, f28.step, getD_mid, tmd, e1, e2]
    simp
theorem f28_ev (d : List UInt8) (h : d.length ≤ 100000) : Ev (fun R m K => f28 m d K) (fun R K => K (adler d : Int)) := Lp.ev (step := fun R m K => f28.step m K) <|
  .next0 (.s1 d 1 0 0) (fun m R K call => rfl) (by simpa [adler] using f28_lp d [] 1 0 (by omega) (by omega) (by simpa using h))
theorem adl_wf (a : Nat) : (a + 65520) % 65521 = (if a = 0 then 65520 else (a - 1) % 65521) := by split <;> omega
/-- The program's sum starts at zero and counts the one at the end. -/
theorem f113_lp : ∀ (l pre : List UInt8) (a b a' : Nat), a < 65521 → b < 65521 → a' < 65521 → a = (a' + 1) % 65521 → pre.length + l.length ≤ 100000 →
    Lp (fun R m K => f113.step m K) (.s1 (pre ++ l) ((pre ++ l).length : Int) (pre.length : Int) (a' : Int) (b : Int)) (fun R K => K ((((adl a b l).1 + 65520) % 65521 : Nat) : Int) ((adl a b l).2 : Int))
  | [], pre, a, b, a', ha, hb, ha', hh, hl => .ret0 fun m R K call => by
    have q : (a + 65520) % 65521 = a' := by omega
    simp only [adl, q]
    simp (disch := omega) only [SS, f113.step]
  | x :: l, pre, a, b, a', ha, hb, ha', hh, hl => by
    have hx := x.toNat_lt
    simp only [List.length_cons] at hl
    have e1 : (((a' : Int) + (x.toNat : Int)) % 65521) = (((a' + x.toNat) % 65521 : Nat) : Int) := by omega
    have h1 : (a' + x.toNat) % 65521 < 65521 := Nat.mod_lt _ (by omega)
    have e2 : (((b : Int) + (((a' + x.toNat) % 65521 : Nat) : Int) + 1) % 65521) = (((b + (a + x.toNat) % 65521) % 65521 : Nat) : Int) := by omega
    refine .next0 (.s1 (pre ++ [x] ++ l) ((pre ++ [x] ++ l).length : Int) ((pre ++ [x]).length : Int) (((a' + x.toNat) % 65521 : Nat) : Int) (((b + (a + x.toNat) % 65521) % 65521 : Nat) : Int)) (fun m R K call => ?_) (f113_lp l (pre ++ [x]) ((a + x.toNat) % 65521) _ _ (Nat.mod_lt _ (by omega)) (Nat.mod_lt _ (by omega)) h1 (by omega) (by simp; omega))
    simp (disch := omega) only [SS, f113.step, getD_mid, tmd, w32, e1, e2]
    simp [Int.add_assoc, Int.add_comm, Int.add_left_comm]
theorem f72_ev (d : List UInt8) (h : d.length ≤ 100000) : Ev (fun R m K => f72 m d K) (fun R K => K (adler d : Int)) := Lp.ev (step := fun R m K => f72.step m K) <| by
  have h0 := f113_lp d [] 1 0 0 (by omega) (by omega) (by omega) rfl (by simpa using h)
  obtain ⟨N, e⟩ := Lp.ev (.next0 (.s1 d (d.length : Int) 0 0 0) (fun m R K call => rfl) (by simpa using h0) : Lp (fun R m (K : Int → Int → Option R) => f113.step m K) (.s0 d 0 0) _)
  obtain ⟨g1, g2⟩ := adl_lt d 1 0 (by omega) (by omega)
  refine .ret ⟨N + 1, fun m hm R K call => ?_⟩
  simp only [f72.step]
  refine (e m (by omega) R _).trans ?_
  obtain ⟨k, rfl⟩ : ∃ k, m = k + 1 := ⟨m - 1, by omega⟩
  simp only [f114, iter, f114.step, deref]
  have q1 : (((adl 1 0 d).1 : Int) + 65520) % 65521 + 1 = (((adl 1 0 d).1 + 65520) % 65521 + 1 : Nat) := by omega
  have q2 : ((((adl 1 0 d).1 + 65520) % 65521 + 1 : Nat) : Int) % 65521 = ((adl 1 0 d).1 : Int) := by omega
  rw [q1, w32 (by omega), w32 (by omega), tmd (by omega), q2]
  have q3 : (((adl 1 0 d).2 : Int) * 65536) = (((adl 1 0 d).2 * 65536 : Nat) : Int) := by omega
  have q4 := or_add (x := (adl 1 0 d).1) (k := 16) (adl 1 0 d).2 (by omega)
  rw [q3, or_u32 (by omega) (by omega), Nat.or_comm, q4]
  congr 2
  simp only [adler]; omega
end Go.Proofs.YtidncoebfnabcaaGreatDoor
namespace Go.Proofs.YtidncoebfnabcaaGreatDoor
open Go.AM

/-! ### Four bytes -/
def be4 (v : Nat) : List UInt8 := [UInt8.ofNat (v / 16777216), UInt8.ofNat (v / 65536 % 256), UInt8.ofNat (v / 256 % 256), UInt8.ofNat (v % 256)]
theorem u8n {x : Nat} (h : x < 256) : (UInt8.ofNat x).toNat = x := by simp; omega
theorem shr8 (v k : Nat) (hk : k ≤ 64) : IntKind.wrap .u8 (Int.fdiv (v : Int) (2 ^ (min k 64))) = ((v / 2 ^ k % 256 : Nat) : Int) := by
  rw [min64 hk, p2, fdvn, IntKind.wrap_u8]; omega
theorem f80_ev (v : Nat) (h : v < 4294967296) : Ev (fun R m K => f80 m (v : Int) 4 K) (fun R K => K (be4 v)) := Lp.ev (step := fun R m K => f80.step m K) <| by
  refine .next0 (.s1 (v : Int) 4 4 0 []) (fun m R K call => rfl) ?_
  refine .next0 (.s1 (v : Int) 4 4 1 [((v / 2 ^ 24 % 256 : Nat) : Int)]) (fun m R K call => ?_) ?_
  · have := shr8 v 24 (by omega)
    simp (disch := omega) only [SS, f80.step]
    rw [show (((8 : Int) * (4 - 1 - 0)).toNat) = 24 from rfl, this]; rfl
  refine .next0 (.s1 (v : Int) 4 4 2 [((v / 2 ^ 24 % 256 : Nat) : Int), ((v / 2 ^ 16 % 256 : Nat) : Int)]) (fun m R K call => ?_) ?_
  · have := shr8 v 16 (by omega)
    simp (disch := omega) only [SS, f80.step]
    rw [show (((8 : Int) * (4 - 1 - 1)).toNat) = 16 from rfl, this]; rfl
  refine .next0 (.s1 (v : Int) 4 4 3 [((v / 2 ^ 24 % 256 : Nat) : Int), ((v / 2 ^ 16 % 256 : Nat) : Int), ((v / 2 ^ 8 % 256 : Nat) : Int)]) (fun m R K call => ?_) ?_
  · have := shr8 v 8 (by omega)
    simp (disch := omega) only [SS, f80.step]
    rw [show (((8 : Int) * (4 - 1 - 2)).toNat) = 8 from rfl, this]; rfl
  refine .next0 (.s1 (v : Int) 4 4 4 [((v / 2 ^ 24 % 256 : Nat) : Int), ((v / 2 ^ 16 % 256 : Nat) : Int), ((v / 2 ^ 8 % 256 : Nat) : Int), ((v / 2 ^ 0 % 256 : Nat) : Int)]) (fun m R K call => ?_) ?_
  · have := shr8 v 0 (by omega)
    simp (disch := omega) only [SS, f80.step]
    rw [show (((8 : Int) * (4 - 1 - 3)).toNat) = 0 from rfl, this]; rfl
  refine .ret0 fun m R K call => ?_
  simp (disch := omega) only [SS, f80.step]
  have e1 : v / 2 ^ 24 % 256 = v / 16777216 := by omega
  have e2 : v / 2 ^ 0 % 256 = v % 256 := by omega
  rw [e1, e2]; rfl
theorem wr8 (v : Nat) : IntKind.wrap .u8 ((v : Int) % 256) = ((v % 256 : Nat) : Int) := by rw [IntKind.wrap_u8]; omega
theorem f60_ev (v : Nat) (h : v < 4294967296) : Ev (fun R m K => f60 m (v : Int) 4 K) (fun R K => K (be4 v).reverse) := Lp.ev (step := fun R m K => f60.step m K) <| by
  have hd : ∀ n : Nat, ((n : Int) / 256) = ((n / 256 : Nat) : Int) := fun n => by omega
  refine .next0 (.s1 (v : Int) 4 0 []) (fun m R K call => rfl) ?_
  refine .next0 (.s2 ((v / 256 : Nat) : Int) 4 1 [((v % 256 : Nat) : Int)]) (fun m R K call => by
    simp (disch := omega) only [SS, f60.step, tmd, tdv, wr8, hd, wu64]; rfl) ?_
  refine .next0 (.s2 ((v / 256 / 256 : Nat) : Int) 4 2 [((v % 256 : Nat) : Int), ((v / 256 % 256 : Nat) : Int)]) (fun m R K call => by
    simp (disch := omega) only [SS, f60.step, tmd, tdv, wr8, hd, wu64]; rfl) ?_
  refine .next0 (.s2 ((v / 256 / 256 / 256 : Nat) : Int) 4 3 [((v % 256 : Nat) : Int), ((v / 256 % 256 : Nat) : Int), ((v / 256 / 256 % 256 : Nat) : Int)]) (fun m R K call => by
    simp (disch := omega) only [SS, f60.step, tmd, tdv, wr8, hd, wu64]; rfl) ?_
  refine .next0 (.s2 ((v / 256 / 256 / 256 / 256 : Nat) : Int) 4 4 [((v % 256 : Nat) : Int), ((v / 256 % 256 : Nat) : Int), ((v / 256 / 256 % 256 : Nat) : Int), ((v / 256 / 256 / 256 % 256 : Nat) : Int)]) (fun m R K call => by
    simp (disch := omega) only [SS, f60.step, tmd, tdv, wr8, hd, wu64]; rfl) ?_
  refine .ret0 fun m R K call => ?_
  simp (disch := omega) only [SS, f60.step]
  have e1 : v / 256 / 256 % 256 = v / 65536 % 256 := by omega
  have e2 : v / 256 / 256 / 256 % 256 = v / 16777216 := by omega
  rw [e1, e2]; rfl
theorem f59_ev (a b c d : UInt8) : Ev (fun R m K => f59 m [a, b, c, d] K) (fun R K => K [d, c, b, a]) := Lp.ev (step := fun R m K => f59.step m K) <| by
  refine .next0 (.s1 [a, b, c, d] 3 []) (fun m R K call => rfl) ?_
  refine .next0 (.s2 [a, b, c, d] 2 (ints [d])) (fun m R K call => rfl) ?_
  refine .next0 (.s2 [a, b, c, d] 1 (ints [d, c])) (fun m R K call => rfl) ?_
  refine .next0 (.s2 [a, b, c, d] 0 (ints [d, c, b])) (fun m R K call => rfl) ?_
  refine .next0 (.s2 [a, b, c, d] (-1) (ints [d, c, b, a])) (fun m R K call => rfl) ?_
  exact .ret0 fun m R K call => by
    simp (disch := omega) only [SS, f59.step, bytesOf_map]
theorem f27_ev (v : Nat) (h : v < 4294967296) : Ev (fun R m K => f27 m (v : Int) 4 K) (fun R K => K (be4 v)) := Lp.ev (step := fun R m K => f27.step m K) <| .ret <| by
  obtain ⟨N1, e1⟩ := f60_ev v h
  obtain ⟨N2, e2⟩ := f59_ev (UInt8.ofNat (v % 256)) (UInt8.ofNat (v / 256 % 256)) (UInt8.ofNat (v / 65536 % 256)) (UInt8.ofNat (v / 16777216))
  refine ⟨N1 + N2, fun m hm R K call => ?_⟩
  simp only [f27.step]
  refine (e1 m (by omega) R _).trans ?_
  exact e2 m (by omega) R _
theorem f71_lp : ∀ (l pre : List UInt8) (v : Nat), pre.length + l.length ≤ 4 → v < 256 ^ pre.length → Lp (fun R m K => f71.step m K) (.s1 (pre ++ l) (v : Int) ((pre ++ l).length : Int) (pre.length : Int)) (fun R K => K ((l.foldl (fun a b => a * 256 + b.toNat) v : Nat) : Int))
  | [], pre, v, hl, hv => .ret0 fun m R K call => by
    simp (disch := omega) only [SS, f71.step, List.append_nil, List.foldl_nil]
  | b :: l, pre, v, hl, hv => by
    have hb := b.toNat_lt
    simp only [List.length_cons] at hl
    have hv' : v < 256 ^ 3 := Nat.lt_of_lt_of_le hv (Nat.pow_le_pow_right (by omega) (by omega))
    have hn : v * 256 + b.toNat < 256 ^ (pre ++ [b]).length := by
      simp only [List.length_append, List.length_cons, List.length_nil, Nat.pow_succ, Nat.pow_zero, Nat.one_mul, Nat.zero_add]; omega
    refine .next0 (.s1 (pre ++ [b] ++ l) ((v * 256 + b.toNat : Nat) : Int) ((pre ++ [b] ++ l).length : Int) ((pre ++ [b]).length : Int)) (fun m R K call => ?_) (f71_lp l (pre ++ [b]) _ (by simp; omega) hn)
    have q : ((v : Int) * 256) = ((v * 256 : Nat) : Int) := by omega
    have q2 := or_add (x := b.toNat) (k := 8) v (by omega)
    rw [show (2 : Nat) ^ 8 = 256 from rfl] at q2
    have g1 : v * 256 < 2 ^ 64 := Nat.lt_of_lt_of_le (Nat.mul_lt_mul_of_pos_right hv' (by decide : 0 < 256)) (by decide)
    have g2 : b.toNat < 2 ^ 64 := by omega
    simp (disch := omega) only [SS, f71.step, getD_mid, q, wu64]
    rw [or_u64 g1 g2, Nat.or_comm, q2, Nat.add_comm]
    simp [Int.add_assoc, Int.add_comm, Int.add_left_comm]
theorem f71_ev (v : Nat) (h : v < 4294967296) : Ev (fun R m K => f71 m (be4 v) K) (fun R K => K (v : Int)) := Lp.ev (step := fun R m K => f71.step m K) <| by
  have := f71_lp (be4 v) [] 0 (by simp [be4]) (by simp)
  have e : (be4 v).foldl (fun a b => a * 256 + b.toNat) 0 = v := by
    simp only [be4, List.foldl_cons, List.foldl_nil]
    rw [u8n (by omega), u8n (by omega), u8n (by omega), u8n (by omega)]; omega
  rw [e] at this
  exact .next0 _ (fun m R K call => rfl) this

/-! ### The frame -/
def frame (r d : List UInt8) : List UInt8 := [120, 1] ++ r ++ be4 (adler d)
theorem f45_ev (r d : List UInt8) (hd : d.length ≤ 100000) (hr : r.length ≤ 100000) : Ev (fun R m K => f45 m r d K) (fun R K => K (frame r d)) := Lp.ev (step := fun R m K => f45.step m K) <| .ret <| by
  obtain ⟨N1, e1⟩ := f72_ev d hd
  obtain ⟨N2, e2⟩ := f80_ev (adler d) (adler_lt d)
  have hl := adler_lt d
  refine ⟨N1 + N2, fun m hm R K call => ?_⟩
  simp only [f45.step]
  simp (disch := omega) only [SS]
  refine (e1 m (by omega) R _).trans ?_
  dsimp only
  rw [wu64 (by omega)]
  refine (e2 m (by omega) R _).trans ?_
  have : (be4 (adler d)).length = 4 := rfl
  simp (disch := omega) only [SS, this]
  rfl
theorem f12_ev (r d : List UInt8) (hd : d.length ≤ 100000) (hr : r.length ≤ 100000) : Ev (fun R m K => f12 m r d K) (fun R K => K (frame r d)) := Lp.ev (step := fun R m K => f12.step m K) <| .ret <| by
  obtain ⟨N1, e1⟩ := f28_ev d hd
  obtain ⟨N2, e2⟩ := f27_ev (adler d) (adler_lt d)
  have hl := adler_lt d
  have hb : bytesOf [120, 1] = [120, 1] := rfl
  refine ⟨N1 + N2, fun m hm R K call => ?_⟩
  simp only [f12.step, hb]
  simp (disch := omega) only [SS]
  refine (e1 m (by omega) R _).trans ?_
  dsimp only
  rw [wu64 (by omega)]
  refine (e2 m (by omega) R _).trans ?_
  have : (be4 (adler d)).length = 4 := rfl
  simp (disch := omega) only [SS, this]
  rfl
theorem f13_ev (d : List UInt8) (h : d.length ≤ 60000) : Ev (fun R m K => f13 m d K) (fun R K => K (stored d)) := Lp.ev (step := fun R m K => f13.step m K) <| by
  refine .next0 (.s1 d []) (fun m R K call => rfl) (.ret0 fun m R K call => ?_)
  have e1 : ((d.length : Int) % 256) = ((d.length % 256 : Nat) : Int) := by omega
  have e2 : ((d.length : Int) / 256) = ((d.length / 256 : Nat) : Int) := by omega
  have e3 : (255 - ((d.length % 256 : Nat) : Int)) = (((65535 - d.length) % 256 : Nat) : Int) := by omega
  have e4 : (255 - ((d.length / 256 : Nat) : Int)) = (((65535 - d.length) / 256 : Nat) : Int) := by omega
  have hb : bytesOf [1, ((d.length % 256 : Nat) : Int), ((d.length / 256 : Nat) : Int), (((65535 - d.length) % 256 : Nat) : Int), (((65535 - d.length) / 256 : Nat) : Int)] = 1 :: (le2 d.length ++ le2 (65535 - d.length)) := rfl
  have hl : ∀ n, (le2 n).length = 2 := fun n => rfl
  simp (disch := omega) only [SS, f13.step, tmd, tdv, e1, e2, e3, e4, w8, hb, hl]
  rfl
theorem f21_ev (d : List UInt8) (hd : d.length ≤ 1500) : ∃ r, Fx d r ∧ Ev (fun R m K => f21 m d K) (fun R K => K (frame r d)) := by
  obtain ⟨r, hF, N1, e1⟩ := f46_ev d hd
  obtain ⟨hr1, hr⟩ := hF.len hd
  obtain ⟨N2, e2⟩ := f45_ev r d (by omega) (by omega)
  refine ⟨r, hF, Lp.ev (step := fun R m K => f21.step m K) <| .ret ⟨N1 + N2, fun m hm R K call => ?_⟩⟩
  simp only [f21.step]
  refine (e1 m (by omega) R _).trans ?_
  exact e2 m (by omega) R _
theorem frame_length (r d : List UInt8) : (frame r d).length = r.length + 6 := by simp [frame, be4]
/-- The reference reads what Deflate wrote. -/
theorem f9_ev (d r : List UInt8) (hF : Fx d r) (hd : d.length ≤ 1500) : Ev (fun R m K => f9 m (frame r d) 0 65536 K) (fun R K => K d ((frame r d).length : Int) 0) := Lp.ev (step := fun R m K => f9.step m K) <| .ret <| by
  obtain ⟨hr1, hr⟩ := hF.len hd
  obtain ⟨N1, e1⟩ := f26_ev (frame r d) d r (be4 (adler d)) rfl hF hd (by simp [be4])
  obtain ⟨N2, e2⟩ := f28_ev d (by omega)
  obtain ⟨N3, e3⟩ := f27_ev (adler d) (adler_lt d)
  have hl := adler_lt d
  have hfl := frame_length r d
  have h25 : Ev (fun R m K => f25 m 120 1 K) (fun R K => K true) := .closed 3 fun k R K => by kernel_rfl
  obtain ⟨N4, e4⟩ := h25
  refine ⟨N1 + N2 + N3 + N4, fun m hm R K call => ?_⟩
  have g0 : List.getD (frame r d) (Int.toNat 0) 0 = 120 := rfl
  have g1 : List.getD (frame r d) (Int.toNat (0 + 1)) 0 = 1 := rfl
  have h120 : ((UInt8.toNat 120 : Nat) : Int) = 120 := rfl
  have h1 : ((UInt8.toNat 1 : Nat) : Int) = 1 := rfl
  have hdr : List.drop (Int.toNat ((r.length : Int) + 2)) (frame r d) = be4 (adler d) := by
    rw [show ((r.length : Int) + 2).toNat = ([120, 1] ++ r : List UInt8).length by simp; omega]
    exact List.drop_left
  simp only [f9.step]
  simp (disch := omega) only [SS, hfl, g0, g1, h120, h1]
  refine (e4 m (by omega) R _).trans ?_
  simp (disch := omega) only [SS]
  refine (e1 m (by omega) R _).trans ?_
  have q : IntKind.wrap .i64 ((0 : Int) + 2 + (r.length : Int)) = (r.length : Int) + 2 := by rw [w64 (by omega)]; omega
  have hb4 : (be4 (adler d)).length = 4 := rfl
  have ht : List.take (Int.toNat 4) (be4 (adler d)) = be4 (adler d) := rfl
  have q0 : IntKind.wrap .i64 ((0 : Int) + 2) = 0 + 2 := rfl
  simp only [q0, q]
  simp (disch := omega) only [SS, hdr, hb4, hfl]
  refine (e2 m (by omega) R _).trans ?_
  dsimp only
  rw [wu64 (by omega)]
  refine (e3 m (by omega) R _).trans ?_
  have ht' : List.take 4 (be4 (adler d)) = be4 (adler d) := rfl
  simp (disch := omega) only [SS, ht']
  rfl
end Go.Proofs.YtidncoebfnabcaaGreatDoor
