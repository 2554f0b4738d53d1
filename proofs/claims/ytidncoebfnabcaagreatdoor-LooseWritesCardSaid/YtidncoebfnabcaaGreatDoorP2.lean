/- The pure law, part three: the program reads what it wrote, the two sums agree, the snapshot finds the file. -/
import Derived.Test.YtidncoebfnabcaaGreatDoorP1
set_option linter.unusedVariables false
set_option linter.unusedSimpArgs false
namespace Go.Proofs.YtidncoebfnabcaaGreatDoor
open Go.AM

/-! ### The program's reader -/
structure RS (data : List UInt8) (st p pos acc cnt : Nat) : Prop where
  h1 : st ≤ pos
  h2 : pos ≤ data.length
  ha : acc < 2 ^ cnt
  hp : 8 * (pos - st) = p + cnt
  hb : bitsOf cnt acc ++ bb (data.drop pos) = (bb (data.drop st)).drop p
theorem RS.start (data : List UInt8) (st : Nat) (h : st ≤ data.length) : RS data st 0 st 0 0 := ⟨by omega, h, by decide, by omega, by simp [bitsOf]⟩
abbrev K5r (R : Type) := List UInt8 → Int → Int → Int → Int → Option R
theorem drop_cons' (data : List UInt8) (pos : Nat) (h : pos < data.length) : data.drop pos = data.getD pos 0 :: data.drop (pos + 1) := by
  rw [List.drop_eq_getElem_cons h]; simp [h]
theorem f175_lp {data : List UInt8} {st : Nat} (hd : data.length ≤ 100000) (n : Nat) (hn : n ≤ 32) : ∀ t p pos acc cnt, n ≤ cnt + 8 * t → cnt ≤ 39 → RS data st p pos acc cnt → p + n ≤ (bb (data.drop st)).length →
    ∃ pos' acc' cnt', RS data st p pos' acc' cnt' ∧ n ≤ cnt' ∧ (cnt' ≤ n + 7 ∨ cnt' = cnt) ∧ ∀ s : f175.St, (s = .s0 (n : Int) data (pos : Int) (acc : Int) (cnt : Int) (st : Int) ∨ s = .s1 (n : Int) data (pos : Int) (acc : Int) (cnt : Int) (st : Int)) →
      Lp (κ := K5r) (fun R m K => f175.step m K) s (fun R K => K data (pos' : Int) (acc' : Int) (cnt' : Int) (st : Int)) := by
  intro t
  induction t with
  | zero =>
    intro p pos acc cnt ht hc h hl
    refine ⟨pos, acc, cnt, h, by omega, .inr rfl, fun s hs => .ret0 fun m R K call => ?_⟩
    rcases hs with rfl | rfl <;> simp (disch := omega) only [SS, f175.step]
  | succ t ih =>
    intro p pos acc cnt ht hc h hl
    by_cases hcn : n ≤ cnt
    · refine ⟨pos, acc, cnt, h, by omega, .inr rfl, fun s hs => .ret0 fun m R K call => ?_⟩
      rcases hs with rfl | rfl <;> simp (disch := omega) only [SS, f175.step]
    · obtain ⟨h1, h2, ha, hp, hb⟩ := h
      rw [bb_length, List.length_drop] at hl
      have hpos : pos < data.length := by omega
      have hg := (data.getD pos 0).toNat_lt
      have hpw := pow_le (a := cnt) (b := 32) (by omega)
      have hx : (data.getD pos 0).toNat * 2 ^ cnt < 256 * 2 ^ 32 := Nat.lt_of_lt_of_le (Nat.mul_lt_mul_of_pos_right hg (Nat.pow_pos (by omega))) (Nat.mul_le_mul (Nat.le_refl _) hpw)
      have hnew : acc + (data.getD pos 0).toNat * 2 ^ cnt < 2 ^ (cnt + 8) := by
        rw [Nat.pow_add, Nat.mul_comm (2 ^ cnt)]
        have : ((data.getD pos 0).toNat + 1) * 2 ^ cnt ≤ 2 ^ 8 * 2 ^ cnt := Nat.mul_le_mul_right _ hg
        rw [Nat.add_mul] at this
        omega
      obtain ⟨pos', acc', cnt', g1, g2, g3, g4⟩ := ih p (pos + 1) (acc + (data.getD pos 0).toNat * 2 ^ cnt) (cnt + 8) (by omega) (by omega) ⟨by omega, by omega, hnew, by omega, by
        rw [← hb, bitsOf_join _ _ _ _ ha, drop_cons' data pos hpos, bb_cons, List.append_assoc]⟩ (by rw [bb_length, List.length_drop]; omega)
      refine ⟨pos', acc', cnt', g1, g2, by omega, fun s hs => .next0 _ (fun m R K call => ?_) (g4 _ (.inr rfl))⟩
      have e2 : (((data.getD pos 0).toNat : Int) * ((2 ^ cnt : Nat) : Int)) = (((data.getD pos 0).toNat * 2 ^ cnt : Nat) : Int) := by simp
      have g5 : acc < 2 ^ 64 := by omega
      have g6 : (data.getD pos 0).toNat * 2 ^ cnt < 2 ^ 64 := by omega
      rcases hs with rfl | rfl
      · simp (disch := omega) only [SS, f175.step, min64, p2, wu64]
        rw [e2, or_u64 g5 g6, or_add _ ha]
        rfl
      · simp (disch := omega) only [SS, f175.step, min64, p2, wu64]
        rw [e2, or_u64 g5 g6, or_add _ ha]
        rfl
theorem f175_ev {data : List UInt8} {st : Nat} (hd : data.length ≤ 100000) (n : Nat) (hn : n ≤ 32) {p pos acc cnt : Nat} (hc : cnt ≤ 39) (h : RS data st p pos acc cnt) (hl : p + n ≤ (bb (data.drop st)).length) :
    ∃ pos' acc' cnt', RS data st p pos' acc' cnt' ∧ n ≤ cnt' ∧ (cnt' ≤ n + 7 ∨ cnt' = cnt) ∧ Ev (κ := K5r) (fun R m K => f175 m (n : Int) data (pos : Int) (acc : Int) (cnt : Int) (st : Int) K) (fun R K => K data (pos' : Int) (acc' : Int) (cnt' : Int) (st : Int)) := by
  obtain ⟨pos', acc', cnt', g1, g2, g3, g4⟩ := f175_lp hd n hn 4 p pos acc cnt (by omega) hc h hl
  exact ⟨pos', acc', cnt', g1, g2, g3, Lp.ev (step := fun R m K => f175.step m K) (g4 _ (.inl rfl))⟩
theorem f175_id {data : List UInt8} {n pos acc cnt st : Nat} (h : n ≤ cnt) : Ev (κ := K5r) (fun R m K => f175 m (n : Int) data (pos : Int) (acc : Int) (cnt : Int) (st : Int) K) (fun R K => K data (pos : Int) (acc : Int) (cnt : Int) (st : Int)) :=
  Lp.ev (step := fun R m K => f175.step m K) (.ret0 fun m R K call => by simp (disch := omega) only [SS, f175.step])
abbrev K7r (R : Type) := Int → Bool → List UInt8 → Int → Int → Int → Int → Option R
theorem f137_ev {data : List UInt8} {st : Nat} (hd : data.length ≤ 100000) (n v : Nat) (hn : n ≤ 31) (hv : v < 2 ^ n) {pos acc cnt : Nat} {P Z : List Bool} (hc : cnt ≤ 7) (h : RS data st P.length pos acc cnt) (hX : bb (data.drop st) = P ++ bitsOf n v ++ Z) :
    ∃ pos' acc' cnt', RS data st (P.length + n) pos' acc' cnt' ∧ cnt' ≤ 7 ∧ Ev (κ := K7r) (fun R m K => f137 m (n : Int) data (pos : Int) (acc : Int) (cnt : Int) (st : Int) K) (fun R K => K (v : Int) true data (pos' : Int) (acc' : Int) (cnt' : Int) (st : Int)) := by
  have hl : P.length + n ≤ (bb (data.drop st)).length := by rw [hX]; simp [bitsOf_length]; try omega
  obtain ⟨pos', acc', cnt', g1, g2, g3, N1, e1⟩ := f175_ev hd n (by omega) (by omega) h hl
  obtain ⟨N2, e2⟩ := f175_id (data := data) (n := n) (pos := pos') (acc := acc') (cnt := cnt') (st := st) g2
  obtain ⟨h1, h2, ha, hp, hb⟩ := g1
  obtain ⟨c, rfl⟩ : ∃ c, cnt' = n + c := ⟨cnt' - n, by omega⟩
  have hbits : bitsOf n acc' = bitsOf n v ∧ bitsOf c (acc' / 2 ^ n) ++ bb (data.drop pos') = Z := by
    rw [bitsOf_add, hX, List.append_assoc, List.append_assoc, List.drop_left] at hb
    exact List.append_inj hb (by simp [bitsOf_length])
  have hval : acc' % 2 ^ n = v := by
    have := congrArg val hbits.1
    rwa [val_bitsOf, val_bitsOf, Nat.mod_eq_of_lt hv] at this
  have hpw := pow_le (a := n) (b := 31) (by omega)
  have hpw2 := pow_le (a := n + c) (b := 38) (by omega)
  have hone : 1 ≤ 2 ^ n := Nat.one_le_two_pow
  have hcl : acc' / 2 ^ n < 2 ^ c := by
    rw [Nat.div_lt_iff_lt_mul (Nat.pow_pos (by omega)), ← Nat.pow_add, Nat.add_comm c]; exact ha
  refine ⟨pos', acc' / 2 ^ n, c, ⟨h1, h2, hcl, by omega, ?_⟩, by omega, Lp.ev (step := fun R m K => f137.step m K) <| .ret ⟨N1 + N2 + 1, fun m hm R K call => ?_⟩⟩
  · rw [hbits.2, hX, ← List.drop_drop, List.append_assoc, List.drop_left]
    have := List.drop_left (l₁ := bitsOf n v) (l₂ := Z)
    rw [bitsOf_length] at this
    exact this.symm
  · obtain ⟨k, rfl⟩ : ∃ k, m = k + 1 := ⟨m - 1, by omega⟩
    have g5 : acc' < 2 ^ 64 := by omega
    have g6 : 2 ^ n - 1 < 2 ^ 64 := by omega
    have e3 : ((2 ^ n : Nat) : Int) - 1 = ((2 ^ n - 1 : Nat) : Int) := by omega
    simp only [f137.step, f156, f157, iter, f156.step, f157.step]
    simp (disch := omega) only [SS]
    refine (e1 (k + 1) (by omega) R _).trans ?_
    simp (disch := omega) only [SS, min64, p2, Int.one_mul, wu64]
    rw [e3, and_u64 g5 g6, and_mask, hval, w32 (by omega)]
    refine (e2 (k + 1) (by omega) R _).trans ?_
    simp (disch := omega) only [SS, min64, p2, fdvn]
    have q : ((n + c : Nat) : Int) - (n : Int) = (c : Int) := by omega
    rw [q]

/-! ### The program reads symbols -/
def hw (T : TabT) : List Bool → Nat → Int → Int → Nat → Option Int
  | [], _, _, _, _ => none
  | b :: bs, code, first, idx, len =>
    if len ≤ 15 ∧ code < 65536 ∧ 0 ≤ first ∧ first < 65536 ∧ 0 ≤ idx ∧ idx < 1000 ∧ 0 ≤ T.2.1.getD len 0 ∧ T.2.1.getD len 0 < 1000 ∧ T.2.1.length = 16 then
      if ((2 * code + b.toNat : Nat) : Int) - first < T.2.1.getD len 0 then
        if bs = [] ∧ 0 ≤ idx + (((2 * code + b.toNat : Nat) : Int) - first) ∧ idx + (((2 * code + b.toNat : Nat) : Int) - first) < T.2.2.length then some (T.2.2.getD (idx + (((2 * code + b.toNat : Nat) : Int) - first)).toNat 0) else none
      else if idx + T.2.1.getD len 0 = T.2.2.length then none
      else hw T bs (2 * code + b.toNat) ((first + T.2.1.getD len 0) * 2) (idx + T.2.1.getD len 0) (len + 1)
    else none
theorem hw_L : ∀ s, s < 288 → hw tabL (cdL s) 0 0 0 1 = some (s : Int) := by decide +kernel
theorem hw_D : ∀ s, s < 32 → hw tabD (cdD s) 0 0 0 1 = some (s : Int) := by decide +kernel
abbrev K7s (R : Type) := Int → Int → List UInt8 → Int → Int → Int → Int → Option R
theorem f140_lp {data : List UInt8} {st : Nat} (hd : data.length ≤ 100000) (T : TabT) (s : Int) : ∀ (bs : List Bool) (code : Nat) (first idx : Int) (len : Nat) (P Z : List Bool) (pos acc cnt : Nat), hw T bs code first idx len = some s → cnt ≤ 7 → RS data st P.length pos acc cnt → bb (data.drop st) = P ++ bs ++ Z →
    ∃ pos' acc' cnt', RS data st (P.length + bs.length) pos' acc' cnt' ∧ cnt' ≤ 7 ∧ Lp (κ := K7s) (fun R m K => f140.step m K) (.s1 (some T) (code : Int) first idx (len : Int) data (pos : Int) (acc : Int) (cnt : Int) (st : Int)) (fun R K => K s 0 data (pos' : Int) (acc' : Int) (cnt' : Int) (st : Int)) := by
  intro bs
  induction bs with
  | nil => intro code first idx len P Z pos acc cnt h; simp [hw] at h
  | cons b bs ih =>
    intro code first idx len P Z pos acc cnt h hc hR hX
    have hb2 : b.toNat < 2 := by cases b <;> decide
    have hb1 : bitsOf 1 b.toNat = [b] := by cases b <;> rfl
    obtain ⟨p1, a1, c1, r1, hc1, N, e1⟩ := f137_ev hd 1 b.toNat (by omega) (by omega) hc hR (P := P) (Z := bs ++ Z) (by rw [hb1, hX]; simp)
    unfold hw at h
    split at h
    · rename_i hg
      obtain ⟨q1, q2, q3, q4, q5, q6, q7, q8, q9⟩ := hg
      have hor : ibits .or .i64 ((code : Int) * 2) (IntKind.wrap .i64 (b.toNat : Int)) = ((2 * code + b.toNat : Nat) : Int) := by
        have := or_add (x := b.toNat) (k := 1) code (by omega)
        have q : ((code : Int) * 2) = ((code * 2 : Nat) : Int) := by omega
        rw [q, w64 (by omega), or_i64 (by omega) (by omega), Nat.or_comm, show code * 2 = code * 2 ^ 1 from rfl, this]
        congr 1; omega
      split at h
      · rename_i hlt
        split at h
        · rename_i hok
          obtain ⟨rfl, o1, o2⟩ := hok
          simp only [Option.some.injEq] at h
          refine ⟨p1, a1, c1, by simpa using r1, hc1, .ret ⟨N, fun m hm R K call => ?_⟩⟩
          simp only [f140.step]
          simp (disch := omega) only [SS]
          refine (e1 m hm R _).trans ?_
          simp only [hor, deref]
          simp (disch := omega) only [SS, q9]
          rw [h]
        · cases h
      · rename_i hge
        split at h
        · cases h
        · rename_i hne
          obtain ⟨p2, a2, c2, r2, hc2, e2⟩ := ih _ _ _ _ (P ++ [b]) Z p1 a1 c1 h hc1 (by simpa using r1) (by rw [hX]; simp)
          refine ⟨p2, a2, c2, by rw [List.length_append] at r2; rwa [show P.length + (b :: bs).length = P.length + [b].length + bs.length by simp; omega], hc2, .next _ ⟨N, fun m hm R K call => ?_⟩ e2⟩
          simp only [f140.step]
          simp (disch := omega) only [SS]
          refine (e1 m hm R _).trans ?_
          simp only [hor, deref]
          simp (disch := omega) only [SS, q9, df hge, df hne]
          rfl
    · cases h
theorem f140_ev {data : List UInt8} {st : Nat} (hd : data.length ≤ 100000) (T : TabT) (hT : T.2.2 ≠ []) (s : Int) (c : List Bool) (hs : hw T c 0 0 0 1 = some s) {pos acc cnt : Nat} {P Z : List Bool} (hc : cnt ≤ 7) (h : RS data st P.length pos acc cnt) (hX : bb (data.drop st) = P ++ c ++ Z) :
    ∃ pos' acc' cnt', RS data st (P.length + c.length) pos' acc' cnt' ∧ cnt' ≤ 7 ∧ Ev (κ := K7s) (fun R m K => f140 m (some T) data (pos : Int) (acc : Int) (cnt : Int) (st : Int) K) (fun R K => K s 0 data (pos' : Int) (acc' : Int) (cnt' : Int) (st : Int)) := by
  obtain ⟨p1, a1, c1, r1, hc1, e1⟩ := f140_lp hd T s c 0 0 0 1 P Z pos acc cnt hs hc h hX
  refine ⟨p1, a1, c1, r1, hc1, Lp.ev (step := fun R m K => f140.step m K) (.next0 _ (fun m R K call => ?_) e1)⟩
  have : 0 < T.2.2.length := List.length_pos_iff.2 hT
  simp only [f140.step, deref]
  simp (disch := omega) only [SS]
  rfl
end Go.Proofs.YtidncoebfnabcaaGreatDoor
namespace Go.Proofs.YtidncoebfnabcaaGreatDoor
open Go.AM

/-! ### The program inflates -/
abbrev K8 (R : Type) := Int → Int → List UInt8 → Int → Int → Int → Int → List Int → Option R
theorem f141_ev (b : Int) (lim : Nat) (data : List UInt8) (x y z w : Int) (out : List Int) (h : out.length < lim) (hl : lim ≤ 1000000) : ∃ N, ∀ m, N ≤ m → ∀ R (K0 K1 : K8 R), f141 m b (lim : Int) data x y z w out K0 K1 = K1 0 (lim : Int) data x y z w (out ++ [b]) := ⟨1, fun m hm R K0 K1 => by
  obtain ⟨k, rfl⟩ : ∃ k, m = k + 1 := ⟨m - 1, by omega⟩
  simp only [f141, iter, f141.step]
  simp (disch := omega) only [SS]⟩
abbrev f142P (s : f142.St) (res : ∀ R, K8 R → Option R) : Prop := Lp (κ := K8) (fun R m K => f142.step m K K) s res
theorem f142_loop {data : List UInt8} {x y z w : Int} {lim : Nat} {pre : List UInt8} (L D : Nat) (hD : 1 ≤ D) (hDp : D ≤ pre.length) (hlim : pre.length + L ≤ lim) (hlim' : lim ≤ 100000) :
    ∀ n i, L - i ≤ n → i ≤ L → ∀ s : f142.St, (s = .s1 (D : Int) (L : Int) (i : Int) (lim : Int) data x y z w (ints (ext pre D i)) ∨ s = .s2 (D : Int) (L : Int) (i : Int) (lim : Int) data x y z w (ints (ext pre D i))) →
      f142P s (fun R K => K 0 (lim : Int) data x y z w (ints (ext pre D L))) := by
  intro n
  have hend : ∀ s : f142.St, (s = .s1 (D : Int) (L : Int) (L : Int) (lim : Int) data x y z w (ints (ext pre D L)) ∨ s = .s2 (D : Int) (L : Int) (L : Int) (lim : Int) data x y z w (ints (ext pre D L))) →
      f142P s (fun R K => K 0 (lim : Int) data x y z w (ints (ext pre D L))) := by
    rintro s (rfl | rfl)
    · exact .ret0 fun m R K call => by simp (disch := omega) only [SS, f142.step]
    · exact .ret0 fun m R K call => by simp (disch := omega) only [SS, f142.step]
  induction n with
  | zero =>
    intro i hn hi
    obtain rfl : i = L := by omega
    exact hend
  | succ n ih =>
    intro i hn hi
    by_cases hiL : i = L
    · subst hiL; exact hend
    have hel := ext_length pre D i
    obtain ⟨N2, e2⟩ := f141_ev (((ext pre D i).getD ((ext pre D i).length - D) 0).toNat : Int) lim data x y z w (ints (ext pre D i)) (by simp; omega) (by omega)
    have q : (((pre.length + i : Nat) : Int) - (D : Int)).toNat = pre.length + i - D := by omega
    rw [hel] at e2
    rintro s (rfl | rfl)
    · refine .next _ ⟨N2, fun m hm R K call => ?_⟩ (ih (i + 1) (by omega) (by omega) _ (.inr rfl))
      simp only [f142.step, List.length_map, hel]
      simp (disch := omega) only [SS, q, getD_ints]
      refine (e2 m hm R _ _).trans ?_
      rw [ints_snoc, ext, hel]
      simp (disch := omega) only [SS]
      rfl
    · refine .next _ ⟨N2, fun m hm R K call => ?_⟩ (ih (i + 1) (by omega) (by omega) _ (.inr rfl))
      simp only [f142.step, List.length_map, hel]
      simp (disch := omega) only [SS, q, getD_ints]
      refine (e2 m hm R _ _).trans ?_
      rw [ints_snoc, ext, hel]
      simp (disch := omega) only [SS]
      rfl
theorem f142_ev {data : List UInt8} {st lim : Nat} (hd : data.length ≤ 100000) {pre : List UInt8} (L D : Nat) (hL : 3 ≤ L) (hL' : L < 259) (hD : 1 ≤ D) (hDp : D ≤ pre.length) (hD' : D < 2000) (hlim : pre.length + L ≤ lim) (hlim' : lim ≤ 100000)
    {pos acc cnt : Nat} {P Z : List Bool} (hc : cnt ≤ 7) (h : RS data st P.length pos acc cnt) (hX : bb (data.drop st) = P ++ (bitsOf (eL (sL L)) (L - bL (sL L)) ++ tokD D) ++ Z) :
    ∃ pos' acc' cnt', RS data st (P.length + (bitsOf (eL (sL L)) (L - bL (sL L)) ++ tokD D).length) pos' acc' cnt' ∧ cnt' ≤ 7 ∧
      Ev (κ := K8) (fun R m K => f142 m ((257 + sL L : Nat) : Int) (some tabD) (lim : Int) data (pos : Int) (acc : Int) (cnt : Int) (st : Int) (ints pre) K K) (fun R K => K 0 (lim : Int) data (pos' : Int) (acc' : Int) (cnt' : Int) (st : Int) (ints (ext pre D L))) := by
  have oks := sL_ok L hL' hL
  have okd := sD_ok D hD' hD
  obtain ⟨N1, e1⟩ := f86_ev (sL L) (by omega)
  obtain ⟨p2, a2, c2, r2, hc2, N2, e2⟩ := f137_ev hd (eL (sL L)) (L - bL (sL L)) (by omega) (by omega) hc h (Z := tokD D ++ Z) (by rw [hX]; simp)
  obtain ⟨p3, a3, c3, r3, hc3, N3, e3⟩ := f140_ev hd tabD (by decide) _ _ (hw_D (sD D) (by omega)) hc2 (P := P ++ bitsOf (eL (sL L)) (L - bL (sL L))) (Z := bitsOf (eD (sD D)) (D - bD (sD D)) ++ Z) (by rw [List.length_append, bitsOf_length]; exact r2) (by rw [hX]; simp [tokD])
  obtain ⟨N4, e4⟩ := f87_ev (sD D) (by omega)
  obtain ⟨p5, a5, c5, r5, hc5, N5, e5⟩ := f137_ev hd (eD (sD D)) (D - bD (sD D)) (by omega) (by omega) hc3 (P := P ++ bitsOf (eL (sL L)) (L - bL (sL L)) ++ cdD (sD D)) (Z := Z) (by rw [List.length_append]; exact r3) (by rw [hX]; simp [tokD])
  refine ⟨p5, a5, c5, ?_, hc5, Lp.ev (step := fun R m K => f142.step m K K) (.next _ ⟨N1 + N2 + N3 + N4 + N5, fun m hm R K call => ?_⟩ (f142_loop L D hD hDp hlim hlim' L 0 (by omega) (by omega) _ (.inl rfl)))⟩
  · simp only [List.length_append, bitsOf_length, tokD] at r5 ⊢
    rwa [show P.length + (eL (sL L) + ((cdD (sD D)).length + eD (sD D))) = P.length + eL (sL L) + (cdD (sD D)).length + eD (sD D) by omega]
  · have q1 : IntKind.wrap .i64 (((257 + sL L : Nat) : Int) - 257) = (sL L : Int) := by rw [w64 (by omega)]; omega
    simp only [f142.step, q1]
    simp (disch := omega) only [SS]
    refine (e1 m (by omega) R _).trans ?_
    refine (e2 m (by omega) R _).trans ?_
    simp (disch := omega) only [SS]
    refine (e3 m (by omega) R _).trans ?_
    simp (disch := omega) only [SS]
    refine (e4 m (by omega) R _).trans ?_
    refine (e5 m (by omega) R _).trans ?_
    have q : IntKind.wrap .i64 ((bD (sD D) : Int) + IntKind.wrap .i64 ((D - bD (sD D) : Nat) : Int)) = (D : Int) := by rw [w64 (n := ((D - bD (sD D) : Nat) : Int)) (by omega), w64 (by omega)]; omega
    have q' : IntKind.wrap .i64 ((bL (sL L) : Int) + IntKind.wrap .i64 ((L - bL (sL L) : Nat) : Int)) = (L : Int) := by rw [w64 (n := ((L - bL (sL L) : Nat) : Int)) (by omega), w64 (by omega)]; omega
    simp only [q, q']
    simp (disch := omega) only [SS]
    have q2 : (bL (sL L) : Int) + ((L - bL (sL L) : Nat) : Int) = (L : Int) := by omega
    simp only [q2]
    rfl

abbrev f111P (s : f111.St) (res : ∀ R, K8 R → Option R) : Prop := Lp (κ := K8) (fun R m K => f111.step m K) s res
abbrev gs3 (r1 : Int) (lim : Nat) (data : List UInt8) (pos acc cnt st : Nat) (out : List UInt8) : f111.St := .s3 r1 (some tabL) (some tabD) (lim : Int) data (pos : Int) (acc : Int) (cnt : Int) (st : Int) (ints out)
theorem prg_dv {data : List UInt8} {st lim : Nat} (r1 : Int) (hd : data.length ≤ 100000) (hlim' : lim ≤ 100000) {B : List Bool} {pre : List UInt8} (hv : Dv B pre) : ∀ (P Z : List Bool) (pos acc cnt : Nat), bb (data.drop st) = P ++ B ++ Z → pre.length ≤ lim → cnt ≤ 7 → RS data st P.length pos acc cnt →
    ∃ pos' acc' cnt', RS data st (P.length + B.length) pos' acc' cnt' ∧ cnt' ≤ 7 ∧ ∀ res, f111P (gs3 r1 lim data pos' acc' cnt' st pre) res → f111P (gs3 r1 lim data pos acc cnt st []) res := by
  induction hv with
  | nil => intro P Z pos acc cnt hX hl hc h; exact ⟨pos, acc, cnt, h, hc, fun res h => h⟩
  | @lit B pre b hv ih =>
    intro P Z pos acc cnt hX hl hc h
    have hb := b.toNat_lt
    simp only [List.length_append, List.length_cons, List.length_nil] at hl
    obtain ⟨p1, a1, c1, g1, hc1, k1⟩ := ih P (cdL b.toNat ++ Z) pos acc cnt (by rw [hX]; simp) (by omega) hc h
    obtain ⟨p2, a2, c2, g2, hc2, N2, e2⟩ := f140_ev hd tabL (by decide) _ _ (hw_L b.toNat (by omega)) hc1 (P := P ++ B) (Z := Z) (by rw [List.length_append]; exact g1) (by rw [hX]; simp)
    obtain ⟨N3, e3⟩ := f141_ev (b.toNat : Int) lim data (p2 : Int) (a2 : Int) (c2 : Int) (st : Int) (ints pre) (by simp; omega) (by omega)
    refine ⟨p2, a2, c2, ?_, hc2, fun res hr => k1 res (.next _ ⟨N2 + N3, fun m hm R K call => ?_⟩ hr)⟩
    · rw [List.length_append] at g2 ⊢; rwa [← Nat.add_assoc]
    · simp only [f111.step]
      refine (e2 m (by omega) R _).trans ?_
      simp (disch := omega) only [SS, w8]
      refine (e3 m (by omega) R _ _).trans ?_
      simp (disch := omega) only [SS]
      rw [ints_snoc]
  | @cpy B pre L D hv h1 h2 h3 h4 h5 ih =>
    intro P Z pos acc cnt hX hl hc h
    rw [ext_length] at hl
    have oks := sL_ok L h2 h1
    obtain ⟨p1, a1, c1, g1, hc1, k1⟩ := ih P (tokL L ++ tokD D ++ Z) pos acc cnt (by rw [hX]; simp) (by omega) hc h
    obtain ⟨p2, a2, c2, g2, hc2, N2, e2⟩ := f140_ev hd tabL (by decide) _ _ (hw_L (257 + sL L) (by omega)) hc1 (P := P ++ B) (Z := bitsOf (eL (sL L)) (L - bL (sL L)) ++ tokD D ++ Z) (by rw [List.length_append]; exact g1) (by rw [hX]; simp [tokL])
    obtain ⟨p3, a3, c3, g3, hc3, N3, e3⟩ := f142_ev hd (lim := lim) (pre := pre) L D h1 h2 h3 h4 h5 hl hlim' hc2 (P := P ++ B ++ cdL (257 + sL L)) (Z := Z) (by rw [List.length_append (bs := cdL _)]; exact g2) (by rw [hX]; simp [tokL])
    refine ⟨p3, a3, c3, ?_, hc3, fun res hr => k1 res (.next _ ⟨N2 + N3, fun m hm R K call => ?_⟩ hr)⟩
    · simp only [List.length_append, tokL] at g3 ⊢
      rwa [show P.length + (B.length + ((cdL (257 + sL L)).length + (bitsOf (eL (sL L)) (L - bL (sL L))).length + (tokD D).length)) = P.length + B.length + (cdL (257 + sL L)).length + ((bitsOf (eL (sL L)) (L - bL (sL L))).length + (tokD D).length) by omega]
    · simp only [f111.step]
      refine (e2 m (by omega) R _).trans ?_
      simp (disch := omega) only [SS]
      refine (e3 m (by omega) R _).trans ?_
      simp (disch := omega) only [SS]

/-! #### Stored blocks -/
abbrev K7b (R : Type) := List UInt8 → Bool → List UInt8 → Int → Int → Int → Int → Option R
theorem f158_ev {data : List UInt8} {st p pos acc cnt : Nat} (hd : data.length ≤ 100000) (n : Nat) (hc : cnt ≤ 7) (h : RS data st p pos acc cnt) (hn : pos + n ≤ data.length) :
    Ev (κ := K7b) (fun R m K => f158 m (n : Int) data (pos : Int) (acc : Int) (cnt : Int) (st : Int) K) (fun R K => K ((data.drop pos).take n) true data ((pos + n : Nat) : Int) 0 0 (st : Int)) := Lp.ev (step := fun R m K => f158.step m K) <| .ret ⟨1, fun m hm R K call => by
  obtain ⟨k, rfl⟩ : ∃ k, m = k + 1 := ⟨m - 1, by omega⟩
  have ha := h.ha
  have hdv : acc / 2 ^ cnt = 0 := Nat.div_eq_of_lt ha
  have q1 : ((cnt : Int) % 8) = (cnt : Int) := by omega
  have q2 : ((pos : Int) + (n : Int)).toNat = pos + n := by omega
  have q3 : List.drop pos (List.take (pos + n) data) = List.take n (List.drop pos data) := by rw [List.drop_take]; congr 1; omega
  simp only [f158.step, f176, iter, f176.step]
  simp (disch := omega) only [SS, tmd, q1, min64, p2, fdvn, hdv, Int.sub_self, tdv]
  have q4 : IntKind.wrap .i64 ((pos : Int) - 0 / 8) = (pos : Int) := by rw [w64 (by omega)]; omega
  have q5 : ((pos : Int) - 0 / 8) = (pos : Int) := by omega
  simp only [q5]
  simp (disch := omega) only [SS, q2, q3]
  rfl⟩
theorem f159_ev (n : Nat) (h : n < 65536) : Ev (fun R m K => f159 m (le2 n) K) (fun R K => K (n : Int)) := Lp.ev (step := fun R m K => f159.step m K) <| by
  have h1 : (UInt8.ofNat (n % 256)).toNat = n % 256 := u8n (by omega)
  have h2 : (UInt8.ofNat (n / 256)).toNat = n / 256 := u8n (by omega)
  refine .next0 (.s1 (le2 n) 0 2 0) (fun m R K call => rfl) ?_
  refine .next0 (.s1 (le2 n) ((n % 256 : Nat) : Int) 2 1) (fun m R K call => ?_) ?_
  · have g0 : List.getD (le2 n) (Int.toNat 0) 0 = UInt8.ofNat (n % 256) := rfl
    have gl : (le2 n).length = 2 := rfl
    have := or_u64 (x := 0) (y := n % 256) (by omega) (by omega)
    rw [show ((0 : Nat) : Int) = 0 from rfl, Nat.zero_or] at this
    simp (disch := omega) only [SS, f159.step, g0, gl, h1]
    rw [show (Int.toNat (8 * 0)) = 0 from rfl, show (min 0 64 : Nat) = 0 from rfl, wu64 (n := ((n % 256 : Nat) : Int)) (by omega), show ((2 : Int) ^ 0) = 1 from rfl, Int.mul_one, wu64 (by omega), this]
    rfl
  refine .next0 (.s1 (le2 n) (n : Int) 2 2) (fun m R K call => ?_) ?_
  · have g0 : List.getD (le2 n) (Int.toNat 1) 0 = UInt8.ofNat (n / 256) := rfl
    have gl : (le2 n).length = 2 := rfl
    have := or_u64 (x := n % 256) (y := n / 256 * 256) (by omega) (by omega)
    have o := or_add (x := n % 256) (k := 8) (n / 256) (by omega)
    have q : (((n / 256 : Nat) : Int) * 256) = ((n / 256 * 256 : Nat) : Int) := by omega
    simp (disch := omega) only [SS, f159.step, g0, gl, h2]
    rw [show (Int.toNat (8 * 1)) = 8 from rfl, show (min 8 64 : Nat) = 8 from rfl, wu64 (n := ((n / 256 : Nat) : Int)) (by omega), show ((2 : Int) ^ 8) = 256 from rfl, q, wu64 (by omega), this]
    rw [show (2 : Nat) ^ 8 = 256 from rfl] at o
    rw [o, show n % 256 + n / 256 * 256 = n by omega]
    rfl
  exact .ret0 fun m R K call => by simp (disch := omega) only [SS, f159.step]
end Go.Proofs.YtidncoebfnabcaaGreatDoor
namespace Go.Proofs.YtidncoebfnabcaaGreatDoor
open Go.AM

theorem RS.aligned {data : List UInt8} {st pos : Nat} (h1 : st ≤ pos) (h2 : pos ≤ data.length) : RS data st (8 * (pos - st)) pos 0 0 := by
  refine ⟨h1, h2, by decide, by omega, ?_⟩
  have e : data.drop st = (data.drop st).take (pos - st) ++ data.drop pos := by
    have := (List.take_append_drop (pos - st) (data.drop st)).symm
    rwa [List.drop_drop, show st + (pos - st) = pos by omega] at this
  have hl : (bb ((data.drop st).take (pos - st))).length = 8 * (pos - st) := by rw [bb_length, List.length_take, List.length_drop]; omega
  rw [e, bb_append, ← hl, List.drop_left]
  rfl
theorem f138_ev {data d ad : List UInt8} {lim acc cnt : Nat} (hd : data.length ≤ 100000) (hdata : data = [120, 1] ++ stored d ++ ad) (hdl : d.length ≤ 1500) (hlim : d.length ≤ lim) (hlim' : lim ≤ 100000) (hc : cnt ≤ 7) (h : RS data 2 3 3 acc cnt) :
    Ev (κ := K8) (fun R m K => f138v2 m (lim : Int) data 3 (acc : Int) (cnt : Int) 2 [] K K) (fun R K => K 0 (lim : Int) data ((2 + (stored d).length : Nat) : Int) 0 0 2 (ints d)) := Lp.ev (step := fun R m K => f138v2.step m K K) <| by
  have hsl := stored_length d
  have hlen : data.length = 7 + d.length + ad.length := by rw [hdata]; simp [hsl]; omega
  have hdr : data.drop 3 = le2 d.length ++ le2 (65535 - d.length) ++ (d ++ ad) := by rw [hdata]; simp [stored, le2]
  have hdr7 : data.drop 7 = d ++ ad := by rw [hdata]; simp [stored, le2]
  obtain ⟨N1, e1⟩ := f158_ev hd 4 hc h (by omega)
  have e1' : (data.drop 3).take 4 = le2 d.length ++ le2 (65535 - d.length) := by rw [hdr]; rfl
  obtain ⟨N2, e2⟩ := f159_ev d.length (by omega)
  obtain ⟨N3, e3⟩ := f159_ev (65535 - d.length) (by omega)
  obtain ⟨N4, e4⟩ := f158_ev hd d.length (by omega) (RS.aligned (data := data) (st := 2) (pos := 7) (by omega) (by omega)) (by omega)
  have e4' : (data.drop 7).take d.length = d := by rw [hdr7, List.take_left]
  have h1 : Lp (κ := K8) (fun R m K => f138v2.step m K K) (.s1 true d (lim : Int) data ((7 + d.length : Nat) : Int) 0 0 2 []) (fun R K => K 0 (lim : Int) data ((2 + (stored d).length : Nat) : Int) 0 0 2 (ints d)) := by
    refine .ret0 fun m R K call => ?_
    simp (disch := omega) only [SS, f138v2.step, Int.sub_zero, Int.natCast_zero, List.nil_append]
    rw [hsl, show 2 + (5 + d.length) = 7 + d.length by omega]
  refine .next _ ⟨N1 + N2 + N3 + N4, fun m hm R K call => ?_⟩ h1
  have gl : (le2 d.length ++ le2 (65535 - d.length)).length = 4 := rfl
  have gt : List.take (Int.toNat 2) (le2 d.length ++ le2 (65535 - d.length)) = le2 d.length := rfl
  have gd : List.drop (Int.toNat 2) (le2 d.length ++ le2 (65535 - d.length)) = le2 (65535 - d.length) := rfl
  simp only [f138v2.step]
  refine (e1 m (by omega) R _).trans ?_
  simp only [e1']
  simp (disch := omega) only [SS, gl, gt, gd]
  refine (e2 m (by omega) R _).trans ?_
  simp (disch := omega) only [SS, xor_i64, gl, gt, gd]
  refine (e3 m (by omega) R _).trans ?_
  have hx := xor_i64 d.length (by omega)
  simp (disch := omega) only [SS, hx]
  refine (e4 m (by omega) R _).trans ?_
  simp only [e4']
  simp (disch := omega) only [SS]
  rfl
theorem f111_ev {data d r ad : List UInt8} {lim : Nat} (hF : Fx d r) (hd : data.length ≤ 100000) (hdata : data = [120, 1] ++ r ++ ad) (hdl : d.length ≤ 1500) (hlim : d.length ≤ lim) (hlim' : lim ≤ 100000) :
    ∃ acc cnt : Nat, cnt ≤ 7 ∧ Ev (κ := K8) (fun R m K => f111 m (lim : Int) data 2 0 0 2 K) (fun R K => K 0 (lim : Int) data ((2 + r.length : Nat) : Int) (acc : Int) (cnt : Int) 2 (ints d)) := by
  have hbd : data.drop 2 = r ++ ad := by rw [hdata]; rfl
  have hst := RS.start data 2 (by rw [hdata]; simp; try omega)
  rcases hF with rfl | ⟨B, pad, hv, hB, hrb, hp⟩
  · obtain ⟨p1, a1, c1, g1, hc1, N1, e1⟩ := f137_ev hd 3 1 (by omega) (by omega) (by omega) hst (P := []) (Z := List.replicate 5 false ++ bitsOf 16 d.length ++ bitsOf 16 (65535 - d.length) ++ bb d ++ bb ad) (by rw [hbd, bb_append, stored_bits d (by omega)]; rfl)
    have hpos := g1.hp
    have h1' := g1.h1
    simp only [List.length_nil] at hpos
    obtain rfl : p1 = 3 := by omega
    obtain ⟨N2, e2⟩ := f138_ev (acc := a1) (cnt := c1) hd hdata hdl hlim hlim' hc1 (by simpa using g1)
    refine ⟨0, 0, by omega, Lp.ev (step := fun R m K => f111.step m K) (.next0 (.s1 (lim : Int) data 2 0 0 2 []) (fun m R K call => rfl) (.next (.s2 1 0 (lim : Int) data ((2 + (stored d).length : Nat) : Int) 0 0 2 (ints d)) ⟨N1 + N2, fun m hm R K call => ?_⟩ (.ret0 fun m R K call => ?_)))⟩
    · simp only [f111.step]
      refine (e1 m (by omega) R _).trans ?_
      have q : Int.fdiv ((1 : Nat) : Int) 2 = 0 := rfl
      simp only [q]
      simp (disch := omega) only [SS]
      refine (e2 m (by omega) R _).trans ?_
      rfl
    · have q : ibits .and .u32 1 1 = 1 := by decide +kernel
      simp (disch := omega) only [SS, f111.step, q]
      rfl
  · have hX : bb (data.drop 2) = [] ++ bitsOf 3 3 ++ (B ++ cdL 256 ++ (pad ++ bb ad)) := by
      rw [hbd, bb_append, hrb]; simp [bitsOf]
    obtain ⟨p1, a1, c1, g1, hc1, N1, e1⟩ := f137_ev hd 3 3 (by omega) (by omega) (by omega) hst (P := []) hX
    obtain ⟨N2, e2⟩ := f81_ev
    obtain ⟨p3, a3, c3, g3, hc3, k3⟩ := prg_dv (lim := lim) 3 hd hlim' hv (bitsOf 3 3) (cdL 256 ++ (pad ++ bb ad)) p1 a1 c1 (by rw [hX]; simp) hlim hc1 (by rw [bitsOf_length]; simpa using g1)
    obtain ⟨p4, a4, c4, g4, hc4, N4, e4⟩ := f140_ev hd tabL (by decide) _ _ (hw_L 256 (by omega)) hc3 (P := bitsOf 3 3 ++ B) (Z := pad ++ bb ad) (by rw [List.length_append]; exact g3) (by rw [hX]; simp)
    have hlr := congrArg List.length hrb
    rw [bb_length] at hlr
    simp only [List.length_append, List.length_cons, List.length_nil] at hlr
    have hpos := g4.hp
    have h1' := g4.h1
    simp only [List.length_append, bitsOf_length] at hpos
    obtain rfl : p4 = 2 + r.length := by omega
    refine ⟨a4, c4, hc4, Lp.ev (step := fun R m K => f111.step m K) (.next0 (.s1 (lim : Int) data 2 0 0 2 []) (fun m R K call => rfl) (.next _ ⟨N1 + N2, fun m hm R K call => ?_⟩ (k3 _ (.ret ⟨N4, fun m hm R K call => ?_⟩))))⟩
    · simp only [f111.step]
      refine (e1 m (by omega) R _).trans ?_
      have q : Int.fdiv ((3 : Nat) : Int) 2 = 1 := rfl
      simp only [q]
      simp (disch := omega) only [SS]
      refine (e2 m (by omega) R _).trans ?_
      rfl
    · have q : ibits .and .u32 3 1 = 1 := by decide +kernel
      simp only [f111.step]
      refine (e4 m (by omega) R _).trans ?_
      simp (disch := omega) only [SS, q]
      rfl
theorem f70_ev {data d r ad : List UInt8} (hF : Fx d r) (hd : data.length ≤ 100000) (hdata : data = [120, 1] ++ r ++ ad) (hdl : d.length ≤ 1500) :
    Ev (fun R m K => f70 m data 2 65536 K) (fun R K => K d (r.length : Int) 0) := Lp.ev (step := fun R m K => f70.step m K) <| .ret <| by
  obtain ⟨acc, cnt, hc, N1, e1⟩ := f111_ev (lim := 65536) hF hd hdata hdl (by omega) (by omega)
  have hlen : data.length = 2 + r.length + ad.length := by rw [hdata]; simp; omega
  refine ⟨N1 + 1, fun m hm R K call => ?_⟩
  obtain ⟨k, rfl⟩ : ∃ k, m = k + 1 := ⟨m - 1, by omega⟩
  have h110 : ∀ K, f110 (R := R) (k + 1) data 2 K = K data 2 0 0 2 := by
    intro K
    simp only [f110, iter, f110.step]
    have h1 : (if ((data.length : Nat) : Int) < 2 then ((data.length : Nat) : Int) else 2) = 2 := if_neg (by omega)
    rw [h1]; rfl
  simp only [f70.step]
  simp (disch := omega) only [SS, h110]
  refine (e1 (k + 1) (by omega) R _).trans ?_
  simp only [f112, iter, f112.step, deref]
  have q : (cnt : Int) / 8 = 0 := by omega
  simp (disch := omega) only [SS, tdv, q, bytesOf_map]
  congr 1; omega
/-- The program reads what Deflate wrote. -/
theorem f37_ev (d r : List UInt8) (hF : Fx d r) (hd : d.length ≤ 1500) : Ev (fun R m K => f37 m (frame r d) 0 65536 K) (fun R K => K d ((frame r d).length : Int) 0) := Lp.ev (step := fun R m K => f37.step m K) <| .ret <| by
  obtain ⟨hr1, hr⟩ := hF.len hd
  have hfl := frame_length r d
  obtain ⟨N1, e1⟩ := f70_ev (data := frame r d) (ad := be4 (adler d)) hF (by omega) rfl hd
  obtain ⟨N2, e2⟩ := f72_ev d (by omega)
  obtain ⟨N3, e3⟩ := f71_ev (adler d) (adler_lt d)
  have hl := adler_lt d
  have h69 : Ev (fun R m K => f69 m 120 1 K) (fun R K => K true) := .closed 3 fun k R K => by kernel_rfl
  obtain ⟨N4, e4⟩ := h69
  refine ⟨N1 + N2 + N3 + N4, fun m hm R K call => ?_⟩
  have g0 : List.getD (frame r d) (Int.toNat 0) 0 = 120 := rfl
  have g1 : List.getD (frame r d) (Int.toNat (0 + 1)) 0 = 1 := rfl
  have h120 : ((UInt8.toNat 120 : Nat) : Int) = 120 := rfl
  have h1 : ((UInt8.toNat 1 : Nat) : Int) = 1 := rfl
  have hdr : List.drop (Int.toNat ((r.length : Int) + 2)) (List.take (Int.toNat ((r.length : Int) + 6)) (frame r d)) = be4 (adler d) := by
    rw [show ((r.length : Int) + 2).toNat = ([120, 1] ++ r : List UInt8).length by simp; omega, List.take_of_length_le (by omega)]
    exact List.drop_left
  simp only [f37.step]
  simp (disch := omega) only [SS, hfl, g0, g1, h120, h1]
  refine (e4 m (by omega) R _).trans ?_
  simp (disch := omega) only [SS]
  refine (e1 m (by omega) R _).trans ?_
  have q : IntKind.wrap .i64 (IntKind.wrap .i64 ((0 : Int) + 2) + (r.length : Int)) = (r.length : Int) + 2 := by rw [w64 (n := 0 + 2) (by omega), w64 (by omega)]; omega
  have q' : IntKind.wrap .i64 ((0 : Int) + 2 + (r.length : Int)) = (r.length : Int) + 2 := by rw [w64 (by omega)]; omega
  have q4 : IntKind.wrap .i64 ((r.length : Int) + 2 + 4) = (r.length : Int) + 6 := by rw [w64 (by omega)]; omega
  simp only [q, q', q4]
  simp (disch := omega) only [SS, hdr, hfl]
  refine (e3 m (by omega) R _).trans ?_
  dsimp only
  refine (e2 m (by omega) R _).trans ?_
  simp (disch := omega) only [SS, w32]
  rfl
end Go.Proofs.YtidncoebfnabcaaGreatDoor
namespace Go.Proofs.YtidncoebfnabcaaGreatDoor
open Go.AM

/-! ### SHA-1: both sides to one function -/
def rot (x : Int) (n : Nat) : Int := ibits .or .u32 (IntKind.wrap .u32 (x * 2 ^ n)) (Int.fdiv x (2 ^ (32 - n)))
theorem f49_ev (x : Int) (n : Nat) (h : n ≤ 31) : Ev (fun R m K => f49 m x (n : Int) K) (fun R K => K (rot x n)) := Lp.ev (step := fun R m K => f49.step m K) <| .ret0 fun m R K call => by
  have q : (32 - (n : Int)).toNat = 32 - n := by omega
  simp (disch := omega) only [SS, f49.step, q, min32]
  rfl
theorem and31 : ∀ n, n < 32 → ibits .and .u64 (IntKind.wrap .u64 ((n : Nat) : Int)) 31 = (n : Int) := by decide +kernel
theorem f151_ev (x : Int) (n : Nat) (h : n ≤ 31) : Ev (fun R m K => f151 m x (n : Int) K) (fun R K => K (rot x n)) := Lp.ev (step := fun R m K => f151.step m K) <| .ret0 fun m R K call => by
  have q : (32 - (n : Int)).toNat = 32 - n := by omega
  simp only [f151.step, and31 n (by omega)]
  simp (disch := omega) only [SS, wu64, q, min32]
  rfl
theorem xor_comm32 (x y : Int) : ibits .xor .u32 x y = ibits .xor .u32 y x := by
  show IntKind.wrap .u32 ((BitVec.ofInt 32 x ^^^ BitVec.ofInt 32 y).toNat : Int) = IntKind.wrap .u32 ((BitVec.ofInt 32 y ^^^ BitVec.ofInt 32 x).toNat : Int)
  rw [BitVec.xor_comm]

def word (b : List UInt8) (j : Nat) : Int := (((b.getD (4 * j) 0).toNat * 16777216 + (b.getD (4 * j + 1) 0).toNat * 65536 + (b.getD (4 * j + 2) 0).toNat * 256 + (b.getD (4 * j + 3) 0).toNat : Nat) : Int)
def wds (b : List UInt8) (j : Nat) : List Int := (List.range j).map (word b)
theorem wds_succ (b : List UInt8) (j : Nat) : wds b (j + 1) = wds b j ++ [word b j] := by simp [wds, List.range_succ]
theorem wds_length (b : List UInt8) (j : Nat) : (wds b j).length = j := by simp [wds]
abbrev L1 (R : Type) := List Int → Option R
theorem f48_ev (b : List UInt8) (h : b.length = 64) : ∃ N, ∀ m, N ≤ m → ∀ R (K0 K1 : L1 R), f48 m (ints b) K0 K1 = K1 (wds b 16) := by
  have st : ∀ t j, j + t = 16 → Lp (κ := fun R => L1 R × L1 R) (fun R m K => f48.step m K.1 K.2) (.s2 (ints b) ((4 * j : Nat) : Int) (wds b j)) (fun R K => K.2 (wds b 16)) ∧ (j = 0 → Lp (κ := fun R => L1 R × L1 R) (fun R m K => f48.step m K.1 K.2) (.s1 (ints b) ((4 * j : Nat) : Int) (wds b j)) (fun R K => K.2 (wds b 16))) := by
    intro t
    induction t with
    | zero =>
      intro j hj
      obtain rfl : j = 16 := by omega
      exact ⟨.ret0 fun m R K call => by simp (disch := omega) only [SS, f48.step], fun h => by omega⟩
    | succ t ih =>
      intro j hj
      have ih' := (ih (j + 1) (by omega)).1
      have b0 := (b.getD (4 * j) 0).toNat_lt
      have b1 := (b.getD (4 * j + 1) 0).toNat_lt
      have b2 := (b.getD (4 * j + 2) 0).toNat_lt
      have b3 := (b.getD (4 * j + 3) 0).toNat_lt
      have q1 : (((4 * j : Nat) : Int) + 1).toNat = 4 * j + 1 := by omega
      have q2 : (((4 * j : Nat) : Int) + 2).toNat = 4 * j + 2 := by omega
      have q3 : (((4 * j : Nat) : Int) + 3).toNat = 4 * j + 3 := by omega
      have wl := wds_length b j
      have hw : ((b.getD (4 * j) 0).toNat : Int) * 16777216 + ((b.getD (4 * j + 1) 0).toNat : Int) * 65536 + ((b.getD (4 * j + 2) 0).toNat : Int) * 256 + ((b.getD (4 * j + 3) 0).toNat : Int) = word b j := by simp [word]
      have hi : ((4 * j : Nat) : Int) + 4 = ((4 * (j + 1) : Nat) : Int) := by omega
      have hl : (ints b).length = 64 := by simp [h]
      constructor
      · refine .next0 _ (fun m R K call => ?_) ih'
        simp only [f48.step]
        simp (disch := omega) only [SS, hl, wl, q1, q2, q3, getD_ints, w32, hw, hi]
        rw [wds_succ]
      · intro _
        refine .next0 _ (fun m R K call => ?_) ih'
        simp only [f48.step]
        simp (disch := omega) only [SS, hl, wl, q1, q2, q3, getD_ints, w32, hw, hi]
        rw [wds_succ]
  obtain ⟨N, e⟩ := Lp.next0 (step := fun R m (K : L1 R × L1 R) => f48.step m K.1 K.2) (s := .s0 (ints b)) _ (fun m R K call => rfl) ((st 16 0 rfl).2 rfl)
  exact ⟨N, fun m hm R K0 K1 => e m m hm hm R (K0, K1)⟩
theorem o4l (a b c : Nat) : (a * 256 + b) * 2 ^ 16 + c * 2 ^ 8 = ((a * 256 + b) * 256 + c) * 2 ^ 8 := by
  rw [show (2 : Nat) ^ 16 = 65536 from rfl, show (2 : Nat) ^ 8 = 256 from rfl]; omega
theorem f150_ev (b : List UInt8) (j : Nat) (h : 4 * j + 4 ≤ b.length) : Ev (fun R m K => f150 m (b.drop (4 * j)) K) (fun R K => K (word b j)) := Lp.ev (step := fun R m K => f150.step m K) <| .ret0 fun m R K call => by
  have b0 := (b.getD (4 * j) 0).toNat_lt
  have b1 := (b.getD (4 * j + 1) 0).toNat_lt
  have b2 := (b.getD (4 * j + 2) 0).toNat_lt
  have b3 := (b.getD (4 * j + 3) 0).toNat_lt
  have g : ∀ i, List.getD (b.drop (4 * j)) i 0 = b.getD (4 * j + i) 0 := fun i => by simp [List.getD_eq_getElem?_getD]
  have gl : (b.drop (4 * j)).length = b.length - 4 * j := List.length_drop
  have c0 : ((b.getD (4 * j) 0).toNat : Int) * 16777216 = (((b.getD (4 * j) 0).toNat * 2 ^ 24 : Nat) : Int) := by omega
  have c1 : ((b.getD (4 * j + 1) 0).toNat : Int) * 65536 = (((b.getD (4 * j + 1) 0).toNat * 2 ^ 16 : Nat) : Int) := by omega
  have c2 : ((b.getD (4 * j + 2) 0).toNat : Int) * 256 = (((b.getD (4 * j + 2) 0).toNat * 2 ^ 8 : Nat) : Int) := by omega
  have o1 := or_add (x := (b.getD (4 * j + 1) 0).toNat * 2 ^ 16) (k := 24) (b.getD (4 * j) 0).toNat (by omega)
  have o2 : (b.getD (4 * j) 0).toNat * 2 ^ 24 + (b.getD (4 * j + 1) 0).toNat * 2 ^ 16 = ((b.getD (4 * j) 0).toNat * 256 + (b.getD (4 * j + 1) 0).toNat) * 2 ^ 16 := by omega
  have o3 := or_add (x := (b.getD (4 * j + 2) 0).toNat * 2 ^ 8) (k := 16) ((b.getD (4 * j) 0).toNat * 256 + (b.getD (4 * j + 1) 0).toNat) (by omega)
  have o4 : ((b.getD (4 * j) 0).toNat * 256 + (b.getD (4 * j + 1) 0).toNat) * 2 ^ 16 + (b.getD (4 * j + 2) 0).toNat * 2 ^ 8 = (((b.getD (4 * j) 0).toNat * 256 + (b.getD (4 * j + 1) 0).toNat) * 256 + (b.getD (4 * j + 2) 0).toNat) * 2 ^ 8 := o4l _ _ _
  have o5 := or_add (x := (b.getD (4 * j + 3) 0).toNat) (k := 8) (((b.getD (4 * j) 0).toNat * 256 + (b.getD (4 * j + 1) 0).toNat) * 256 + (b.getD (4 * j + 2) 0).toNat) (by omega)
  simp only [f150.step, g, Nat.add_zero]
  simp (disch := omega) only [SS, gl, w32]
  rw [c0, c1, c2, or_u32 (by omega) (by omega), Nat.or_comm ((b.getD (4 * j) 0).toNat * 2 ^ 24), o1, Nat.add_comm _ ((b.getD (4 * j) 0).toNat * 2 ^ 24), o2]
  rw [or_u32 (by omega) (by omega), Nat.or_comm, o3, Nat.add_comm, o4]
  rw [or_u32 (by omega) (by omega), Nat.or_comm, o5]
  congr 1
  simp only [word]
  omega

/-! #### The schedule -/
def nxt (w : List Int) (i : Nat) : Int := rot (ibits .xor .u32 (ibits .xor .u32 (ibits .xor .u32 (w.getD (i - 3) 0) (w.getD (i - 8) 0)) (w.getD (i - 14) 0)) (w.getD (i - 16) 0)) 1
def sch (w : List Int) : Nat → List Int
  | 0 => w
  | n + 1 => sch w n ++ [nxt (sch w n) (16 + n)]
theorem sch_length (w : List Int) : ∀ n, (sch w n).length = w.length + n
  | 0 => rfl
  | n + 1 => by simp [sch, sch_length w n]; omega
def w80 (b : List UInt8) : List Int := sch (wds b 16) 64
theorem w80_length (b : List UInt8) : (w80 b).length = 80 := by rw [w80, sch_length, wds_length]

/-! #### The rounds -/
def fn (i : Nat) (b c d : Int) : Int :=
  if i < 20 then ibits .or .u32 (ibits .and .u32 b c) (ibits .and .u32 (ibits .xor .u32 b 4294967295) d)
  else if i < 40 then ibits .xor .u32 (ibits .xor .u32 b c) d
  else if i < 60 then ibits .or .u32 (ibits .or .u32 (ibits .and .u32 b c) (ibits .and .u32 b d)) (ibits .and .u32 c d)
  else ibits .xor .u32 (ibits .xor .u32 b c) d
def kn (i : Nat) : Int := if i < 20 then 1518500249 else if i < 40 then 1859775393 else if i < 60 then 2400959708 else 3395469782
def tmp (w : List Int) (i : Nat) (a b c d e : Int) : Int :=
  IntKind.wrap .u32 ((IntKind.wrap .u32 ((IntKind.wrap .u32 ((IntKind.wrap .u32 (rot a 5 + fn i b c d)) + e)) + kn i)) + (w.getD i 0))
def rnds (w : List Int) : Nat → Nat → Int → Int → Int → Int → Int → List Int
  | 0, _, a, b, c, d, e => [a, b, c, d, e]
  | n + 1, i, a, b, c, d, e => rnds w n (i + 1) (tmp w i a b c d e) a (rot b 30) c d
theorem rnds_length (w : List Int) : ∀ n i a b c d e, (rnds w n i a b c d e).length = 5
  | 0, _, _, _, _, _, _ => rfl
  | n + 1, _, _, _, _, _, _ => rnds_length w n _ _ _ _ _ _
def comp (h : List Int) (b : List UInt8) : List Int :=
  let r := rnds (w80 b) 80 0 (h.getD 0 0) (h.getD 1 0) (h.getD 2 0) (h.getD 3 0) (h.getD 4 0)
  [IntKind.wrap .u32 (h.getD 0 0 + r.getD 0 0), IntKind.wrap .u32 (h.getD 1 0 + r.getD 1 0), IntKind.wrap .u32 (h.getD 2 0 + r.getD 2 0), IntKind.wrap .u32 (h.getD 3 0 + r.getD 3 0), IntKind.wrap .u32 (h.getD 4 0 + r.getD 4 0)]
theorem comp_length (h : List Int) (b : List UInt8) : (comp h b).length = 5 := rfl
end Go.Proofs.YtidncoebfnabcaaGreatDoor
namespace Go.Proofs.YtidncoebfnabcaaGreatDoor
open Go.AM

def fin (h r : List Int) : List Int :=
  [IntKind.wrap .u32 (h.getD 0 0 + r.getD 0 0), IntKind.wrap .u32 (h.getD 1 0 + r.getD 1 0), IntKind.wrap .u32 (h.getD 2 0 + r.getD 2 0), IntKind.wrap .u32 (h.getD 3 0 + r.getD 3 0), IntKind.wrap .u32 (h.getD 4 0 + r.getD 4 0)]
theorem comp_fin (h : List Int) (b : List UInt8) : comp h b = fin h (rnds (w80 b) 80 0 (h.getD 0 0) (h.getD 1 0) (h.getD 2 0) (h.getD 3 0) (h.getD 4 0)) := rfl
theorem set_mid {α : Type} (A : List α) (n : Nat) (x z : α) : (A ++ List.replicate (n + 1) z).set A.length x = A ++ [x] ++ List.replicate n z := by
  simp [List.set_append, List.replicate_succ]
theorem getD_app {α : Type} (A B : List α) (j : Nat) (z : α) (h : j < A.length) : (A ++ B).getD j z = A.getD j z := by
  simp [List.getD_eq_getElem?_getD, List.getElem?_append_left h]

/-! #### The program's block -/
abbrev f120P (s : f120.St) (r : List Int) : Prop := Lp (κ := L1) (fun R m K => f120.step m K) s (fun R K => K r)
theorem f120_ph1 (b : List UInt8) (hb : b.length = 64) (h : List Int) (r : List Int) (hr : f120P (.s1 b 16 h (wds b 16 ++ List.replicate 64 0)) r) : ∀ t i : Nat, i + t = 16 → f120P (.s1 b (i : Int) h (wds b i ++ List.replicate (80 - i) 0)) r := by
  intro t
  induction t with
  | zero => intro i hi; obtain rfl : i = 16 := (by omega); exact hr
  | succ t ih =>
    intro i hi
    have ih' := ih (i + 1) (by omega)
    obtain ⟨N, e⟩ := f150_ev b i (by omega)
    have hs : List.set (wds b i ++ List.replicate (80 - i) 0) i (word b i) = wds b (i + 1) ++ List.replicate (80 - (i + 1)) 0 := by
      have := set_mid (wds b i) (80 - (i + 1)) (word b i) (0 : Int)
      rw [wds_length, show 80 - (i + 1) + 1 = 80 - i by omega] at this
      rw [this, wds_succ]
    refine .next (.s2 b (i : Int) h (wds b (i + 1) ++ List.replicate (80 - (i + 1)) 0)) ⟨N, fun m hm R K call => ?_⟩ (.next0 _ (fun m R K call => ?_) ih')
    · have q : (4 * (i : Int)).toNat = 4 * i := by omega
      simp only [f120.step]
      simp (disch := omega) only [SS, q]
      refine (e m hm R _).trans ?_
      simp (disch := omega) only [SS, hs]
    · simp (disch := omega) only [SS, f120.step]; rfl
theorem f120_ph2 (b : List UInt8) (h : List Int) (r : List Int) (w : List Int) (hw : w.length = 16) (hr : f120P (.s1 b 80 h (sch w 64)) r) : ∀ t n : Nat, n + t = 64 → f120P (.s1 b ((16 + n : Nat) : Int) h (sch w n ++ List.replicate (64 - n) 0)) r := by
  intro t
  induction t with
  | zero => intro n hn; obtain rfl : n = 64 := (by omega); simpa using hr
  | succ t ih =>
    intro n hn
    have ih' := ih (n + 1) (by omega)
    have hsl := sch_length w n
    obtain ⟨N, e⟩ := f151_ev (ibits .xor .u32 (ibits .xor .u32 (ibits .xor .u32 ((sch w n).getD (16 + n - 3) 0) ((sch w n).getD (16 + n - 8) 0)) ((sch w n).getD (16 + n - 14) 0)) ((sch w n).getD (16 + n - 16) 0)) 1 (by omega)
    have hs : List.set (sch w n ++ List.replicate (64 - n) 0) (16 + n) (nxt (sch w n) (16 + n)) = sch w (n + 1) ++ List.replicate (64 - (n + 1)) 0 := by
      have := set_mid (sch w n) (64 - (n + 1)) (nxt (sch w n) (16 + n)) (0 : Int)
      rw [hsl, hw, show 64 - (n + 1) + 1 = 64 - n by omega] at this
      rw [this, sch]
    have g : ∀ k : Nat, 3 ≤ k → k ≤ 16 → List.getD (sch w n ++ List.replicate (64 - n) 0) ((((16 + n : Nat) : Int) - (k : Int)).toNat) 0 = (sch w n).getD (16 + n - k) 0 := by
      intro k h3 h16
      rw [show (((16 + n : Nat) : Int) - (k : Int)).toNat = 16 + n - k by omega]
      exact getD_app _ _ _ _ (by omega)
    have g3 := g 3 (by omega) (by omega)
    have g8 := g 8 (by omega) (by omega)
    have g14 := g 14 (by omega) (by omega)
    have g16 := g 16 (by omega) (by omega)
    refine .next (.s2 b ((16 + n : Nat) : Int) h (sch w (n + 1) ++ List.replicate (64 - (n + 1)) 0)) ⟨N, fun m hm R K call => ?_⟩ (.next0 _ (fun m R K call => ?_) ih')
    · have c1 : ¬ (((16 + n : Nat) : Int) < 16) := by omega
      simp only [f120.step]
      rw [w64 (n := ((16 + n : Nat) : Int) - 3) (by omega), w64 (n := ((16 + n : Nat) : Int) - 8) (by omega), w64 (n := ((16 + n : Nat) : Int) - 14) (by omega), w64 (n := ((16 + n : Nat) : Int) - 16) (by omega)]
      rw [show ((3 : Nat) : Int) = 3 from rfl] at g3
      rw [show ((8 : Nat) : Int) = 8 from rfl] at g8
      rw [show ((14 : Nat) : Int) = 14 from rfl] at g14
      rw [show ((16 : Nat) : Int) = 16 from rfl] at g16
      rw [g3, g8, g14, g16]
      simp (disch := omega) only [SS]
      refine (e m hm R _).trans ?_
      have hs' : List.set (sch w n ++ List.replicate (64 - n) 0) (16 + n) (rot (ibits .xor .u32 (ibits .xor .u32 (ibits .xor .u32 ((sch w n).getD (16 + n - 3) 0) ((sch w n).getD (16 + n - 8) 0)) ((sch w n).getD (16 + n - 14) 0)) ((sch w n).getD (16 + n - 16) 0)) 1) = sch w (n + 1) ++ List.replicate (64 - (n + 1)) 0 := hs
      dsimp only
      simp (disch := omega) only [SS, hs']
    · simp (disch := omega) only [SS, f120.step]; rfl
theorem f120_rnd (w : List Int) (hw : w.length = 80) (h0 h1 h2 h3 h4 : Int) : ∀ (n i : Nat) (a b c d e : Int), i + n = 80 → f120P (.s3 a b c d e w (i : Int) [h0, h1, h2, h3, h4]) (fin [h0, h1, h2, h3, h4] (rnds w n i a b c d e)) := by
  intro n
  induction n with
  | zero =>
    intro i a b c d e hi
    obtain rfl : i = 80 := by omega
    exact .ret0 fun m R K call => rfl
  | succ n ih =>
    intro i a b c d e hi
    have ih' := ih (i + 1) (tmp w i a b c d e) a (rot b 30) c d (by omega)
    obtain ⟨N1, e1⟩ := f151_ev a 5 (by omega)
    obtain ⟨N2, e2⟩ := f151_ev b 30 (by omega)
    refine .next0 (.s4 a b c d e (w.getD i 0) (fn i b c d) (kn i) w (i : Int) [h0, h1, h2, h3, h4]) (fun m R K call => ?_) (.next _ ⟨N1 + N2, fun m hm R K call => ?_⟩ ih')
    · by_cases c1 : i < 20
      · have q : (i : Int) / 20 = 0 := by omega
        simp only [f120.step]
        simp (disch := omega) only [SS, tdv, q, fn, kn, if_pos c1, xor_comm32 4294967295 b]
      by_cases c2 : i < 40
      · have q : (i : Int) / 20 = 1 := by omega
        simp only [f120.step]
        simp (disch := omega) only [SS, tdv, q, fn, kn, if_neg c1, if_pos c2]
      by_cases c3 : i < 60
      · have q : (i : Int) / 20 = 2 := by omega
        simp only [f120.step]
        simp (disch := omega) only [SS, tdv, q, fn, kn, if_neg c1, if_neg c2, if_pos c3]
      · have q : (i : Int) / 20 = 3 := by omega
        simp only [f120.step]
        simp (disch := omega) only [SS, tdv, q, fn, kn, if_neg c1, if_neg c2, if_neg c3]
    · simp only [f120.step]
      refine (e1 m (by omega) R _).trans ?_
      refine (e2 m (by omega) R _).trans ?_
      simp (disch := omega) only [SS]
      rfl
theorem f120_ev (b : List UInt8) (hb : b.length = 64) (h : List Int) (hh : h.length = 5) : Ev (fun R m K => f120 m b h K) (fun R K => K (comp h b)) := Lp.ev (step := fun R m K => f120.step m K) <| by
  match h, hh with
  | [h0, h1, h2, h3, h4], _ =>
    have r3 := f120_rnd (w80 b) (w80_length b) h0 h1 h2 h3 h4 80 0 h0 h1 h2 h3 h4 rfl
    have r2 : f120P (.s1 b 80 [h0, h1, h2, h3, h4] (sch (wds b 16) 64)) (comp [h0, h1, h2, h3, h4] b) := .next0 _ (fun m R K call => rfl) r3
    have r1 := f120_ph2 b [h0, h1, h2, h3, h4] _ (wds b 16) (wds_length b 16) r2 64 0 rfl
    have r0 := f120_ph1 b hb [h0, h1, h2, h3, h4] _ r1 16 0 rfl
    exact .next0 _ (fun m R K call => rfl) r0

/-! #### The reference's block -/
abbrev f24P (s : f24.St) (r : List UInt8) : Prop := Lp (κ := fun R => List UInt8 → Option R) (fun R m K => f24.step m K) s (fun R K => K r)
theorem f24_sch (x : Int) (msg h : List Int) (r : List UInt8) (w : List Int) (hw : w.length = 16) (hr : f24P (.s3 x 80 msg h (sch w 64)) r) : ∀ t n : Nat, n + t = 64 → f24P (.s3 x ((16 + n : Nat) : Int) msg h (sch w n)) r := by
  intro t
  induction t with
  | zero => intro n hn; obtain rfl : n = 64 := (by omega); exact hr
  | succ t ih =>
    intro n hn
    have ih' := ih (n + 1) (by omega)
    have hsl := sch_length w n
    obtain ⟨N, e⟩ := f49_ev (ibits .xor .u32 (ibits .xor .u32 (ibits .xor .u32 ((sch w n).getD (16 + n - 3) 0) ((sch w n).getD (16 + n - 8) 0)) ((sch w n).getD (16 + n - 14) 0)) ((sch w n).getD (16 + n - 16) 0)) 1 (by omega)
    refine .next _ ⟨N, fun m hm R K call => ?_⟩ ih'
    have g3 : (((16 + n : Nat) : Int) - 3).toNat = 16 + n - 3 := by omega
    have g8 : (((16 + n : Nat) : Int) - 8).toNat = 16 + n - 8 := by omega
    have g14 : (((16 + n : Nat) : Int) - 14).toNat = 16 + n - 14 := by omega
    have g16 : (((16 + n : Nat) : Int) - 16).toNat = 16 + n - 16 := by omega
    simp only [f24.step]
    rw [w64 (n := ((16 + n : Nat) : Int) - 3) (by omega), w64 (n := ((16 + n : Nat) : Int) - 8) (by omega), w64 (n := ((16 + n : Nat) : Int) - 14) (by omega), w64 (n := ((16 + n : Nat) : Int) - 16) (by omega)]
    rw [g3, g8, g14, g16]
    simp (disch := omega) only [SS]
    refine (e m hm R _).trans ?_
    simp (disch := omega) only [SS]
    rfl
theorem f24_rnd (x : Nat) (hx : x ≤ 1000000) (msg : List Int) (w : List Int) (hw : w.length = 80) (h : List Int) (hh : h.length = 5) (r : List UInt8) : ∀ (n i : Nat) (a b c d e : Int), i + n = 80 → f24P (.s1 ((x + 64 : Nat) : Int) msg (fin h (rnds w n i a b c d e))) r → f24P (.s5 (x : Int) a b c d e (i : Int) msg h w) r := by
  intro n
  induction n with
  | zero =>
    intro i a b c d e hi hr
    obtain rfl : i = 80 := by omega
    refine .next0 _ (fun m R K call => ?_) hr
    simp (disch := omega) only [SS, f24.step]
    rfl
  | succ n ih =>
    intro i a b c d e hi hr
    have ih' := ih (i + 1) (tmp w i a b c d e) a (rot b 30) c d (by omega) hr
    obtain ⟨N1, e1⟩ := f49_ev a 5 (by omega)
    obtain ⟨N2, e2⟩ := f49_ev b 30 (by omega)
    by_cases c3 : i < 60
    · refine .next0 (.s7 (x : Int) a b c d e (i : Int) (ibits .or .u32 (ibits .or .u32 (ibits .and .u32 b c) (ibits .and .u32 b d)) (ibits .and .u32 c d)) 2400959708 msg h w) (fun m R K call => ?_) (.next _ ⟨N1 + N2, fun m hm R K call => ?_⟩ ih')
      · simp (disch := omega) only [SS, f24.step]
      · simp only [f24.step]
        by_cases c1 : i < 20
        · simp (disch := omega) only [SS]
          refine (e1 m (by omega) R _).trans ?_
          simp (disch := omega) only [SS]
          refine (e2 m (by omega) R _).trans ?_
          simp (disch := omega) only [SS, tmp, fn, kn, if_pos c1]
          rfl
        by_cases c2 : i < 40
        · simp (disch := omega) only [SS]
          refine (e1 m (by omega) R _).trans ?_
          simp (disch := omega) only [SS]
          refine (e2 m (by omega) R _).trans ?_
          simp (disch := omega) only [SS, tmp, fn, kn, if_neg c1, if_pos c2]
          rfl
        · simp (disch := omega) only [SS]
          refine (e1 m (by omega) R _).trans ?_
          simp (disch := omega) only [SS]
          refine (e2 m (by omega) R _).trans ?_
          simp (disch := omega) only [SS, tmp, fn, kn, if_neg c1, if_neg c2, if_pos c3]
          rfl
    · refine .next0 (.s7 (x : Int) a b c d e (i : Int) (ibits .xor .u32 (ibits .xor .u32 b c) d) 3395469782 msg h w) (fun m R K call => ?_) (.next _ ⟨N1 + N2, fun m hm R K call => ?_⟩ ih')
      · simp (disch := omega) only [SS, f24.step]
      · have c1 : ¬ i < 20 := by omega
        have c2 : ¬ i < 40 := by omega
        simp only [f24.step]
        simp (disch := omega) only [SS]
        refine (e1 m (by omega) R _).trans ?_
        simp (disch := omega) only [SS]
        refine (e2 m (by omega) R _).trans ?_
        simp (disch := omega) only [SS, tmp, fn, kn, if_neg c1, if_neg c2, if_neg c3]
        rfl
theorem f24_blk (j : Nat) (msg : List UInt8) (hm : msg.length ≤ 1000000) (hj : 64 * j + 64 ≤ msg.length) (h : List Int) (hh : h.length = 5) (r : List UInt8) (hr : f24P (.s1 ((64 * (j + 1) : Nat) : Int) (ints msg) (comp h ((msg.drop (64 * j)).take 64))) r) : f24P (.s1 ((64 * j : Nat) : Int) (ints msg) h) r := by
  have hbl : ((msg.drop (64 * j)).take 64).length = 64 := by rw [List.length_take, List.length_drop]; omega
  obtain ⟨N, e⟩ := f48_ev ((msg.drop (64 * j)).take 64) hbl
  have hsl : List.take ((((64 * j : Nat) : Int) + 64).toNat - 64 * j) (List.drop (0 + 64 * j) (ints msg)) = ints ((msg.drop (64 * j)).take 64) := by
    rw [show (((64 * j : Nat) : Int) + 64).toNat - 64 * j = 64 by omega, Nat.zero_add]
    simp [ints, List.map_take, List.map_drop]
  have h5 := f24_rnd (64 * j) (by omega) (ints msg) (w80 ((msg.drop (64 * j)).take 64)) (w80_length _) h hh r 80 0 (h.getD 0 0) (h.getD 1 0) (h.getD 2 0) (h.getD 3 0) (h.getD 4 0) rfl (by rw [← comp_fin]; exact hr)
  have h3 : f24P (.s3 ((64 * j : Nat) : Int) 80 (ints msg) h (sch (wds ((msg.drop (64 * j)).take 64) 16) 64)) r := .next0 _ (fun m R K call => by simp (disch := omega) only [SS, f24.step]; rfl) h5
  refine .next _ ⟨N, fun m hm' R K call => ?_⟩ (f24_sch _ _ _ _ _ (wds_length _ 16) h3 64 0 rfl)
  simp only [f24.step]
  simp (disch := omega) only [SS]
  rw [hsl]
  exact e m hm' R _ _
end Go.Proofs.YtidncoebfnabcaaGreatDoor
namespace Go.Proofs.YtidncoebfnabcaaGreatDoor
open Go.AM

def proc : Nat → List Int → List UInt8 → List Int
  | 0, h, _ => h
  | n + 1, h, m => proc n (comp h (m.take 64)) (m.drop 64)
theorem proc_length : ∀ n h m, h.length = 5 → (proc n h m).length = 5
  | 0, h, m, hh => hh
  | n + 1, h, m, hh => proc_length n _ _ rfl
theorem proc_add : ∀ a b h m, proc (a + b) h m = proc b (proc a h m) (m.drop (64 * a))
  | 0, b, h, m => by simp [proc]
  | a + 1, b, h, m => by
    rw [Nat.add_right_comm, proc, proc, proc_add a b, List.drop_drop]
    congr 2; omega
theorem proc_app : ∀ n h m m', 64 * n ≤ m.length → proc n h (m ++ m') = proc n h m
  | 0, h, m, m', _ => rfl
  | n + 1, h, m, m', hl => by
    rw [proc, proc, List.take_append_of_le_length (by omega), List.drop_append_of_le_length (by omega), proc_app n _ _ _ (by rw [List.length_drop]; omega)]
def padz (n : Nat) : Nat := (119 - n % 64) % 64
def be8 (v : Nat) (j : Nat) : List UInt8 := (List.range j).map fun t => UInt8.ofNat (v / 2 ^ (56 - 8 * t) % 256)
theorem be8_succ (v j : Nat) : be8 v (j + 1) = be8 v j ++ [UInt8.ofNat (v / 2 ^ (56 - 8 * j) % 256)] := by simp [be8, List.range_succ]
theorem be8_length (v j : Nat) : (be8 v j).length = j := by simp [be8]
def pad (n : Nat) : List UInt8 := 128 :: List.replicate (padz n) 0 ++ be8 (n * 8) 8
theorem pad_length (n : Nat) : (pad n).length = padz n + 9 := by simp [pad, be8_length]; try omega
def outb (h : List Int) : List Int := h.flatMap fun x => [IntKind.wrap .u8 (Int.fdiv x 16777216), IntKind.wrap .u8 (Int.fdiv x 65536), IntKind.wrap .u8 (Int.fdiv x 256), IntKind.wrap .u8 x]
theorem outb_length (h : List Int) : (outb h).length = 4 * h.length := by
  induction h with
  | nil => rfl
  | cons x l ih => simp only [outb, List.flatMap_cons, List.length_append, List.length_cons, List.length_nil] at ih ⊢; omega
def iv : List Int := [1732584193, 4023233417, 2562383102, 271733878, 3285377520]
def nb (n : Nat) : Nat := (n + 9 + padz n) / 64
def sha (d : List UInt8) : List UInt8 := bytesOf (outb (proc (nb d.length) iv (d ++ pad d.length)))
theorem sha_length (d : List UInt8) : (sha d).length = 20 := by
  rw [sha]
  show (List.map _ _).length = 20
  rw [List.length_map, outb_length, proc_length _ _ _ rfl]

/-! #### The reference -/
abbrev f47P (s : f47.St) (r : List Int) : Prop := Lp (κ := L1) (fun R m K => f47.step m K) s (fun R K => K r)
theorem snoc_ints (l : List UInt8) (v k : Nat) (h : v < 256) : ints l ++ [(v : Int)] = ints (l ++ [UInt8.ofNat v]) := by
  simp [ints, Nat.mod_eq_of_lt h]
theorem f47_len (v : Nat) (A : List UInt8) (hA : A.length ≤ 1000000) : ∀ t j : Nat, j + t = 8 → f47P (.s2 (v : Int) (7 - (j : Int)) (ints (A ++ be8 v j))) (ints (A ++ be8 v 8)) := by
  intro t
  induction t with
  | zero =>
    intro j hj
    obtain rfl : j = 8 := (by omega)
    exact .ret0 fun m R K call => by simp (disch := omega) only [SS, f47.step]
  | succ t ih =>
    intro j hj
    have ih' := ih (j + 1) (by omega)
    have hl := be8_length v j
    have q : (8 * (7 - (j : Int))).toNat = 56 - 8 * j := by omega
    have hs := shr8 v (56 - 8 * j) (by omega)
    have hm : v / 2 ^ (56 - 8 * j) % 256 < 256 := Nat.mod_lt _ (by omega)
    refine .next0 _ (fun m R K call => ?_) ih'
    simp only [f47.step]
    rw [w64 (n := 8 * (7 - (j : Int))) (by omega), q, hs]
    simp (disch := omega) only [SS, hl]
    rw [snoc_ints _ _ 0 hm, be8_succ, List.append_assoc]
    congr 2; omega
theorem f47_ev (d : List UInt8) (hd : d.length ≤ 100000) : Ev (fun R m K => f47 m d K) (fun R K => K (ints (d ++ pad d.length))) := Lp.ev (step := fun R m K => f47.step m K) <| by
  have h2 := f47_len (d.length * 8) (d ++ (128 :: List.replicate (padz d.length) 0)) (by simp [padz]; omega) 8 0 rfl
  have e : d ++ (128 :: List.replicate (padz d.length) 0) ++ be8 (d.length * 8) 8 = d ++ pad d.length := by simp [pad]
  rw [e] at h2
  have hp : padz d.length < 64 := Nat.mod_lt _ (by omega)
  have h1 : ∀ t k : Nat, k + t = padz d.length → f47P (.s1 d (ints (d ++ (128 :: List.replicate k 0)))) (ints (d ++ pad d.length)) := by
    intro t
    induction t with
    | zero =>
      intro k hk
      obtain rfl : k = padz d.length := (by omega)
      have hl : (ints (d ++ (128 :: List.replicate (padz d.length) 0))).length = d.length + (padz d.length + 1) := by simp
      have hc : ((d.length + (padz d.length + 1) : Nat) : Int) % 64 = 56 := by unfold padz at *; omega
      refine .next0 _ (fun m R K call => ?_) h2
      simp only [f47.step]
      rw [hl, tmd (by omega), hc]
      simp (disch := omega) only [SS, wu64]
      simp [be8]
    | succ t ih =>
      intro k hk
      have hl : (ints (d ++ (128 :: List.replicate k 0))).length = d.length + (k + 1) := by simp
      have hc : ¬ ((d.length + (k + 1) : Nat) : Int) % 64 = 56 := by unfold padz at *; omega
      refine .next0 _ (fun m R K call => ?_) (ih (k + 1) (by omega))
      simp only [f47.step]
      rw [hl, tmd (by omega), df hc]
      simp (disch := omega) only [SS]
      congr 2
      simp [ints, List.replicate_succ']
  refine .next0 _ (fun m R K call => ?_) (h1 (padz d.length) 0 (by omega))
  simp only [f47.step]
  simp (disch := omega) only [SS]
  simp [ints]
theorem f50_ev (h : List Int) (hh : h.length ≤ 1000) : Ev (fun R m K => f50 m h K) (fun R K => K (bytesOf (outb h))) := Lp.ev (step := fun R m K => f50.step m K) <| by
  have st : ∀ (l pre : List Int), h = pre ++ l → ∀ s : f50.St, (s = .s1 h (h.length : Int) (pre.length : Int) (outb pre) ∨ s = .s2 h (h.length : Int) (pre.length : Int) (outb pre)) → Lp (κ := fun R => List UInt8 → Option R) (fun R m K => f50.step m K) s (fun R K => K (bytesOf (outb h))) := by
    intro l
    induction l with
    | nil =>
      intro pre hp s hs
      rw [List.append_nil] at hp
      subst hp
      rcases hs with rfl | rfl
      · exact .ret0 fun m R K call => by simp (disch := omega) only [SS, f50.step]
      · exact .ret0 fun m R K call => by simp (disch := omega) only [SS, f50.step]
    | cons x l ih =>
      intro pre hp s hs
      have ih' := ih (pre ++ [x]) (by rw [hp]; simp) _ (.inr rfl)
      have hg : h.getD pre.length 0 = x := by rw [hp]; simp
      have hl : h.length = pre.length + (l.length + 1) := by rw [hp]; simp
      have ho := outb_length pre
      have hs' : outb pre ++ [IntKind.wrap .u8 (Int.fdiv x 16777216), IntKind.wrap .u8 (Int.fdiv x 65536), IntKind.wrap .u8 (Int.fdiv x 256), IntKind.wrap .u8 x] = outb (pre ++ [x]) := by simp [outb]
      rcases hs with rfl | rfl
      · refine .next0 _ (fun m R K call => ?_) ih'
        simp (disch := omega) only [SS, f50.step, hg, ho, hs']
        rfl
      · refine .next0 _ (fun m R K call => ?_) ih'
        simp (disch := omega) only [SS, f50.step, hg, ho, hs']
        rfl
  exact .next0 _ (fun m R K call => rfl) (st h [] rfl _ (.inl rfl))
theorem nb_len (n : Nat) : 64 * nb n = n + 9 + padz n := by unfold nb padz; omega
theorem f24_ev (d : List UInt8) (hd : d.length ≤ 100000) : Ev (fun R m K => f24 m d K) (fun R K => K (sha d)) := Lp.ev (step := fun R m K => f24.step m K) <| by
  obtain ⟨N1, e1⟩ := f47_ev d hd
  have hp : padz d.length < 64 := Nat.mod_lt _ (by omega)
  have hlen : (d ++ pad d.length).length = 64 * nb d.length := by rw [nb_len, List.length_append, pad_length]; omega
  have hnb := nb_len d.length
  have st : ∀ t j : Nat, j + t = nb d.length → ∀ h : List Int, h.length = 5 → proc t h ((d ++ pad d.length).drop (64 * j)) = proc (nb d.length) iv (d ++ pad d.length) → f24P (.s1 ((64 * j : Nat) : Int) (ints (d ++ pad d.length)) h) (sha d) := by
    intro t
    induction t with
    | zero =>
      intro j hj h hh he
      obtain rfl : j = nb d.length := (by omega)
      rw [proc] at he
      obtain ⟨N, e⟩ := f50_ev h (by omega)
      have hl : (ints (d ++ pad d.length)).length = 64 * nb d.length := by rw [List.length_map, hlen]
      refine .ret ⟨N, fun m hm R K call => ?_⟩
      simp only [f24.step]
      rw [hl, df (by omega)]
      refine (e m hm R _).trans ?_
      rw [he]; rfl
    | succ t ih =>
      intro j hj h hh he
      refine f24_blk j (d ++ pad d.length) (by omega) (by omega) h hh _ (ih (j + 1) (by omega) _ rfl ?_)
      rw [← he, proc, List.drop_drop, show 64 * j + 64 = 64 * (j + 1) by omega]
  have h0 := st (nb d.length) 0 (by omega) iv rfl (by simp)
  refine .next _ ⟨N1, fun m hm R K call => ?_⟩ h0
  simp only [f24.step]
  exact e1 m hm R _

/-! #### The program -/
abbrev K3h (R : Type) := List UInt8 → Int → List Int → Option R
theorem f118_lp (m0 tl : List UInt8) (c : Int) (hm : m0.length ≤ 1000000) : ∀ n, n = m0.length / 64 → ∀ h : List Int, h.length = 5 → Lp (κ := K3h) (fun R m K => f118.step m K) (.s1 m0 tl c h) (fun R K => K (m0.drop (64 * n)) c (proc n h m0)) := by
  intro n
  induction n generalizing m0 with
  | zero =>
    intro hn h hh
    exact .ret0 fun m R K call => by
      simp (disch := omega) only [SS, f118.step]
      rfl
  | succ n ih =>
    intro hn h hh
    obtain ⟨N, e⟩ := f120_ev (m0.take 64) (by rw [List.length_take]; omega) h hh
    have ih' := ih (m0.drop 64) (by rw [List.length_drop]; omega) (by rw [List.length_drop]; omega) (comp h (m0.take 64)) rfl
    rw [List.drop_drop, show 64 + 64 * n = 64 * (n + 1) by omega] at ih'
    refine .next _ ⟨N, fun m hm R K call => ?_⟩ ih'
    simp only [f118.step]
    simp (disch := omega) only [SS]
    refine (e m hm R _).trans ?_
    simp (disch := omega) only [SS]
theorem f118v2_lp (m0 tl : List UInt8) (c : Int) (hm : m0.length ≤ 1000000) : ∀ n, n = m0.length / 64 → ∀ h : List Int, h.length = 5 → Lp (κ := K3h) (fun R m K => f118v2.step m K) (.s1 m0 tl c h) (fun R K => K (m0.drop (64 * n)) c (proc n h m0)) := by
  intro n
  induction n generalizing m0 with
  | zero =>
    intro hn h hh
    exact .ret0 fun m R K call => by
      simp (disch := omega) only [SS, f118v2.step]
      rfl
  | succ n ih =>
    intro hn h hh
    obtain ⟨N, e⟩ := f120_ev (m0.take 64) (by rw [List.length_take]; omega) h hh
    have ih' := ih (m0.drop 64) (by rw [List.length_drop]; omega) (by rw [List.length_drop]; omega) (comp h (m0.take 64)) rfl
    rw [List.drop_drop, show 64 + 64 * n = 64 * (n + 1) by omega] at ih'
    refine .next _ ⟨N, fun m hm R K call => ?_⟩ ih'
    simp only [f118v2.step]
    simp (disch := omega) only [SS]
    refine (e m hm R _).trans ?_
    simp (disch := omega) only [SS]
theorem f118_ev (d : List UInt8) (hd : d.length ≤ 100000) : Ev (κ := K3h) (fun R m K => f118 m d iv [] 0 K) (fun R K => K (d.drop (64 * (d.length / 64))) (d.length : Int) (proc (d.length / 64) iv d)) := Lp.ev (step := fun R m K => f118.step m K) <| by
  have := f118_lp d [] (d.length : Int) (by omega) _ rfl iv rfl
  refine .next0 _ (fun m R K call => ?_) this
  have hl : iv.length = 5 := rfl
  simp only [f118.step]
  simp (disch := omega) only [SS, hl, wu64]
  simp
theorem f118v2_ev (d tl : List UInt8) (c h : List Int) (x : Nat) (hx : x ≤ 100000) (hd : d.length ≤ 100000) (ht : tl.length ≤ 100000) (hh : h.length = 5) : Ev (κ := K3h) (fun R m K => f118v2 m d c tl (x : Int) h K) (fun R K => K ((tl ++ d).drop (64 * ((tl ++ d).length / 64))) ((x + d.length : Nat) : Int) (proc ((tl ++ d).length / 64) h (tl ++ d))) := Lp.ev (step := fun R m K => f118v2.step m K) <| by
  have := f118v2_lp (tl ++ d) tl ((x + d.length : Nat) : Int) (by simp; omega) _ rfl h hh
  refine .next0 _ (fun m R K call => ?_) this
  have hl : List.isEmpty h = false := by cases h with
    | nil => simp at hh
    | cons => rfl
  simp only [f118v2.step, hl]
  simp (disch := omega) only [SS, wu64]
  rfl
abbrev K4h (R : Type) := List UInt8 → List UInt8 → Int → List Int → Option R
theorem f121_out (tl : List UInt8) (c : Int) (hs h : List Int) (hh : h.length ≤ 1000) : Lp (κ := K4h) (fun R m K => f121.step m K) (.s3 (h.length : Int) 0 tl c hs [] h) (fun R K => K (bytesOf (outb h)) tl c hs) := by
  have st : ∀ (l pre : List Int), h = pre ++ l → Lp (κ := K4h) (fun R m K => f121.step m K) (.s3 (h.length : Int) (pre.length : Int) tl c hs (outb pre) h) (fun R K => K (bytesOf (outb h)) tl c hs) := by
    intro l
    induction l with
    | nil =>
      intro pre hp
      rw [List.append_nil] at hp
      subst hp
      exact .ret0 fun m R K call => by simp (disch := omega) only [SS, f121.step]
    | cons x l ih =>
      intro pre hp
      have ih' := ih (pre ++ [x]) (by rw [hp]; simp)
      have hg : h.getD pre.length 0 = x := by rw [hp]; simp
      have hl : h.length = pre.length + (l.length + 1) := by rw [hp]; simp
      have ho := outb_length pre
      have hs' : outb pre ++ [IntKind.wrap .u8 (Int.fdiv x 16777216), IntKind.wrap .u8 (Int.fdiv x 65536), IntKind.wrap .u8 (Int.fdiv x 256), IntKind.wrap .u8 x] = outb (pre ++ [x]) := by simp [outb]
      refine .next0 _ (fun m R K call => ?_) ih'
      simp (disch := omega) only [SS, f121.step, hg, ho, hs']
      rfl
  exact st h [] rfl
theorem f121_ev (tl : List UInt8) (n : Nat) (h : List Int) (hn : n ≤ 100000) (ht : tl.length = n % 64) (hh : h.length = 5) : Ev (κ := K4h) (fun R m K => f121 m iv tl (n : Int) h K) (fun R K => K (bytesOf (outb (proc ((tl ++ pad n).length / 64) h (tl ++ pad n)))) tl (n : Int) h) := Lp.ev (step := fun R m K => f121.step m K) <| by
  have hp : padz n < 64 := Nat.mod_lt _ (by omega)
  have hr5 := proc_length ((tl ++ pad n).length / 64) h (tl ++ pad n) hh
  have h3 := f121_out tl (n : Int) h (proc ((tl ++ pad n).length / 64) h (tl ++ pad n)) (by omega)
  have hpl := pad_length n
  obtain ⟨N, e⟩ := f118v2_ev (pad n) tl iv h n (by omega) (by omega) (by omega) hh
  have h2 : ∀ t j : Nat, j + t = 8 → Lp (κ := K4h) (fun R m K => f121.step m K) (.s2 iv (128 :: List.replicate (padz n) 0) (56 - 8 * (j : Int)) tl (n : Int) h tl (n : Int) (ints (be8 (n * 8) j)) h) (fun R K => K (bytesOf (outb (proc ((tl ++ pad n).length / 64) h (tl ++ pad n)))) tl (n : Int) h) := by
    intro t
    induction t with
    | zero =>
      intro j hj
      obtain rfl : j = 8 := (by omega)
      have hb := be8_length (n * 8) 8
      have hpd : 128 :: List.replicate (padz n) 0 ++ be8 (n * 8) 8 = pad n := rfl
      refine .next _ ⟨N, fun m hm R K call => ?_⟩ h3
      simp only [f121.step, bytesOf_map]
      have hdl : decide ((128 :: List.replicate (padz n) 0 : List UInt8).length + (be8 (n * 8) 8).length ≤ LIM) = true := dl (by simp only [List.length_cons, List.length_replicate, hb]; omega)
      rw [hpd, df (by omega), hdl]
      exact e m hm R _
    | succ t ih =>
      intro j hj
      have ih' := ih (j + 1) (by omega)
      have hl := be8_length (n * 8) j
      have q : (56 - 8 * (j : Int)).toNat = 56 - 8 * j := by omega
      have hs := shr8 (n * 8) (56 - 8 * j) (by omega)
      have hm : n * 8 / 2 ^ (56 - 8 * j) % 256 < 256 := Nat.mod_lt _ (by omega)
      have q8 : ((n : Int) * 8) = ((n * 8 : Nat) : Int) := by omega
      refine .next0 _ (fun m R K call => ?_) ih'
      simp only [f121.step]
      rw [q8, wu64 (by omega), q, hs]
      simp (disch := omega) only [SS, hl]
      rw [snoc_ints _ _ 0 hm, be8_succ]
      congr 2; omega
  have h1 : ∀ t k : Nat, k + t = padz n → Lp (κ := K4h) (fun R m K => f121.step m K) (.s1 iv (128 :: List.replicate k 0) tl (n : Int) h tl (n : Int) h) (fun R K => K (bytesOf (outb (proc ((tl ++ pad n).length / 64) h (tl ++ pad n)))) tl (n : Int) h) := by
    intro t
    induction t with
    | zero =>
      intro k hk
      obtain rfl : k = padz n := (by omega)
      have hc : ((tl.length : Int) + ((padz n : Int) + 1)) % 64 = 56 := by unfold padz at *; omega
      refine .next0 _ (fun m R K call => ?_) (h2 8 0 rfl)
      simp only [f121.step, List.length_cons, List.length_replicate]
      simp (disch := omega) only [SS, tmd]
      simp [be8]
    | succ t ih =>
      intro k hk
      have hc : ¬ ((tl.length : Int) + ((k + 1 : Nat) : Int)) % 64 = 56 := by unfold padz at *; omega
      refine .next0 _ (fun m R K call => ?_) (ih (k + 1) (by omega))
      simp only [f121.step, List.length_cons, List.length_replicate]
      simp (disch := omega) only [SS, tmd]
      simp [List.replicate_succ']
  have h0 := h1 (padz n) 0 (by omega)
  refine .next0 _ (fun m R K call => ?_) h0
  have hl : List.isEmpty h = false := by cases h with
    | nil => simp at hh
    | cons => rfl
  simp only [f121.step, hl]
  simp (disch := omega) only [SS]
  rfl
theorem f43_ev (d : List UInt8) (hd : d.length ≤ 50000) : Ev (fun R m K => f43 m d K) (fun R K => K (sha d)) := Lp.ev (step := fun R m K => f43.step m K) <| .ret <| by
  have hp : padz d.length < 64 := Nat.mod_lt _ (by omega)
  have hnb := nb_len d.length
  have hpl := pad_length d.length
  obtain ⟨N1, e1⟩ := f118_ev d (by omega)
  obtain ⟨N2, e2⟩ := f121_ev (d.drop (64 * (d.length / 64))) d.length (proc (d.length / 64) iv d) (by omega) (by rw [List.length_drop]; omega) (proc_length _ _ _ rfl)
  have hs : bytesOf (outb (proc ((d.drop (64 * (d.length / 64)) ++ pad d.length).length / 64) (proc (d.length / 64) iv d) (d.drop (64 * (d.length / 64)) ++ pad d.length))) = sha d := by
    rw [sha, ← proc_app (d.length / 64) iv d (pad d.length) (by omega), ← List.drop_append_of_le_length (by omega), ← proc_add]
    congr 3
    rw [List.length_drop, List.length_append]
    omega
  rw [hs] at e2
  refine ⟨N1 + N2 + 1, fun m hm R K call => ?_⟩
  obtain ⟨k, rfl⟩ : ∃ k, m = k + 1 := ⟨m - 1, by omega⟩
  have h119 : ∀ K, f119 (R := R) (k + 1) K = K iv := fun K => rfl
  simp only [f43.step, f77, f78, iter, f77.step, f78.step, h119]
  refine (e1 (k + 1) (by omega) R _).trans ?_
  exact e2 (k + 1) (by omega) R _
end Go.Proofs.YtidncoebfnabcaaGreatDoor
namespace Go.Proofs.YtidncoebfnabcaaGreatDoor
open Go.AM

/-! ### Names of objects -/
theorem dd_digit : ∀ n : Nat, ∀ b ∈ Lib.decDigits n, 48 ≤ b.toNat ∧ b.toNat ≤ 57 := by
  intro n
  induction n using Nat.strongRecOn with
  | _ n ih =>
    intro b hb
    rw [Lib.decDigits] at hb
    split at hb
    · simp only [List.mem_singleton] at hb
      subst hb
      rw [u8n (by omega)]; omega
    · rename_i h
      rcases List.mem_append.1 hb with h1 | h1
      · exact ih (n / 10) (by omega) b h1
      · simp only [List.mem_singleton] at h1
        subst h1
        rw [u8n (by omega)]; omega
theorem dd_ne (n : Nat) : Lib.decDigits n ≠ [] := by
  rw [Lib.decDigits]; split <;> simp
theorem decFrom_snoc : ∀ (l : List UInt8) (a m d : Nat) (b : UInt8), Lib.decFrom a l = some m → Lib.digitVal b = some d → Lib.decFrom a (l ++ [b]) = some (m * 10 + d)
  | [], a, m, d, b, h, hd => by
    simp only [Lib.decFrom, Option.some.injEq] at h
    subst h
    simp [Lib.decFrom, hd]
  | c :: l, a, m, d, b, h, hd => by
    simp only [Lib.decFrom, List.cons_append] at h ⊢
    cases hc : Lib.digitVal c with
    | none => simp [hc] at h
    | some e =>
      simp only [hc] at h ⊢
      exact decFrom_snoc l _ m d b h hd
theorem digitVal_of (k : Nat) (h : k < 10) : Lib.digitVal (UInt8.ofNat (48 + k)) = some k := by
  have e : (UInt8.ofNat (48 + k)).toNat = 48 + k := u8n (by omega)
  rw [Lib.digitVal, e, if_pos (by omega)]
  congr 1; omega
theorem decFrom_dd : ∀ n : Nat, Lib.decFrom 0 (Lib.decDigits n) = some n := by
  intro n
  induction n using Nat.strongRecOn with
  | _ n ih =>
    rw [Lib.decDigits]
    split
    · rename_i h
      show (match Lib.digitVal (UInt8.ofNat (48 + n)) with | some e => Lib.decFrom (0 * 10 + e) [] | none => none) = some n
      rw [digitVal_of n h]
      simp [Lib.decFrom]
    · rename_i h
      rw [decFrom_snoc _ _ _ _ _ (ih (n / 10) (by omega)) (digitVal_of (n % 10) (by omega))]
      congr 1; omega
theorem atoi_dd (n : Nat) : Lib.atoi (Lib.decDigits n) = some (n : Int) := by
  have h := decFrom_dd n
  have hd := dd_digit n
  have hn := dd_ne n
  generalize Lib.decDigits n = l at h hd hn
  cases l with
  | nil => exact absurd rfl hn
  | cons b r =>
    have hb := hd b (by simp)
    have h45 : (b == 45) = false := by
      rw [beq_eq_false_iff_ne]; intro e; rw [e] at hb; exact absurd hb (by decide)
    have h43 : (b == 43) = false := by
      rw [beq_eq_false_iff_ne]; intro e; rw [e] at hb; exact absurd hb (by decide)
    simp [Lib.atoi, h45, h43, Lib.decNat, h]
theorem idx_app : ∀ (A : List UInt8) (c : UInt8) (B : List UInt8), (∀ a ∈ A, a ≠ c) → Lib.indexByte (A ++ c :: B) c = (A.length : Int)
  | [], c, B, h => by simp [Lib.indexByte]
  | a :: A, c, B, h => by
    have ha : (a == c) = false := by rw [beq_eq_false_iff_ne]; exact h a (by simp)
    have ih := idx_app A c B (fun x hx => h x (by simp [hx]))
    simp only [List.cons_append, Lib.indexByte, ha, ih]
    have : ((A.length : Int) == -1) = false := by rw [beq_eq_false_iff_ne]; omega
    simp [this]
theorem f73_ev (A B : List UInt8) (c : UInt8) (h : ∀ a ∈ A, a ≠ c) (hl : A.length + B.length ≤ 1000000) : Ev (fun R m K => f73 m (A ++ c :: B) [c] K) (fun R K => K A B true) := Lp.ev (step := fun R m K => f73.step m K) <| .ret ⟨1, fun m hm R K call => by
  obtain ⟨k, rfl⟩ : ∃ k, m = k + 1 := ⟨m - 1, by omega⟩
  have hi := idx_app A c B h
  simp only [f73.step, f115, iter, f115.step, x143, List.headD_cons, hi]
  have hd : List.drop (A ++ [c]).length (A ++ c :: B) = B := by rw [show A ++ c :: B = (A ++ [c]) ++ B by simp, List.drop_left]
  have ht : List.take A.length (A ++ c :: B) = A := List.take_left
  have q : ((A.length : Int) + (([c].length : Nat) : Int)).toNat = (A ++ [c]).length := by simp
  have q2 : IntKind.wrap .i64 ((A.length : Int) + (([c].length : Nat) : Int)) = (A.length : Int) + (([c].length : Nat) : Int) := w64 (by simp; omega)
  have q3 : leB ((A.length : Int) + (([c].length : Nat) : Int)) (A ++ c :: B).length = true := leB_t (by simp; omega)
  rw [q2, q3, q, hd]
  simp (disch := omega) only [SS, ht]⟩
theorem f74_ev (n : Nat) (h : n ≤ 100000) : Ev (fun R m K => f74 m (Lib.decDigits n) K) (fun R K => K (n : Int) true) := Lp.ev (step := fun R m K => f74.step m K) <| .ret0 fun m R K call => by
  have hl := dd_len 5 n (by omega)
  simp only [f74.step, x116, atoi_dd, Option.isSome_some, Option.getD_some]
  simp (disch := omega) only [SS, x41_eq n (by omega)]
theorem f75_ev (k : Int) (h : 1 ≤ k ∧ k ≤ 4) : Ev (fun R m K => f75 m (name k) K) (fun R K => K k) := by
  obtain rfl | rfl | rfl | rfl : k = 1 ∨ k = 2 ∨ k = 3 ∨ k = 4 := by omega
  all_goals exact .closed 20 fun k R K => by kernel_rfl
theorem name_clean (k : Int) : ∀ a ∈ name k, a ≠ 0 ∧ a ≠ 32 := by
  unfold name
  repeat' split
  all_goals decide
theorem f38_ev (k : Int) (d : List UInt8) (hk : 1 ≤ k ∧ k ≤ 4) (hd : d.length ≤ 2000) : Ev (fun R m K => f38 m (text k d) K) (fun R K => K k d 0) := Lp.ev (step := fun R m K => f38.step m K) <| .ret <| by
  have hnl := name_len k
  have hdl := dd_len 6 d.length (by omega)
  obtain ⟨N1, e1⟩ := f73_ev (name k ++ [32] ++ Lib.decDigits d.length) d 0 (fun a ha => by
    rcases List.mem_append.1 ha with h1 | h1
    · rcases List.mem_append.1 h1 with h2 | h2
      · exact (name_clean k a h2).1
      · simp only [List.mem_singleton] at h2; rw [h2]; decide
    · have := dd_digit _ a h1
      intro e; rw [e] at this; exact absurd this (by decide)) (by simp; omega)
  obtain ⟨N2, e2⟩ := f73_ev (name k) (Lib.decDigits d.length) 32 (fun a ha => (name_clean k a ha).2) (by omega)
  obtain ⟨N3, e3⟩ := f74_ev d.length (by omega)
  obtain ⟨N4, e4⟩ := f75_ev k hk
  have ht : text k d = name k ++ [32] ++ Lib.decDigits d.length ++ 0 :: d := by simp [text]
  have hn : name k ++ [32] ++ Lib.decDigits d.length = name k ++ 32 :: Lib.decDigits d.length := by simp
  refine ⟨N1 + N2 + N3 + N4, fun m hm R K call => ?_⟩
  simp only [f38.step, ht]
  refine (e1 m (by omega) R _).trans ?_
  simp only [hn]
  refine (e2 m (by omega) R _).trans ?_
  refine (e3 m (by omega) R _).trans ?_
  simp (disch := omega) only [SS]
  refine (e4 m (by omega) R _).trans ?_
  simp (disch := omega) only [SS]
  exact e4 m (by omega) R _
theorem text_length (k : Int) (d : List UInt8) (hd : d.length ≤ 1000) : (text k d).length ≤ 1100 := by
  have hnl := name_len k
  have hdl := dd_len 6 d.length (by omega)
  simp only [text, List.length_append, List.length_cons, List.length_nil]
  omega
theorem f17_ev (k : Int) (d r : List UInt8) (hk : 1 ≤ k ∧ k ≤ 4) (hd : d.length ≤ 1000) (hF : Fx (text k d) r) : Ev (fun R m K => f17 m (frame r (text k d)) K) (fun R K => K k d 0) := Lp.ev (step := fun R m K => f17.step m K) <| .ret <| by
  have htl := text_length k d hd
  obtain ⟨N1, e1⟩ := f37_ev (text k d) r hF (by omega)
  obtain ⟨N2, e2⟩ := f38_ev k d hk (by omega)
  refine ⟨N1 + N2, fun m hm R K call => ?_⟩
  simp only [f17.step]
  refine (e1 m (by omega) R _).trans ?_
  simp (disch := omega) only [SS]
  exact e2 m (by omega) R _
def oid (k : Int) (d : List UInt8) : List UInt8 := hexs (sha (text k d))
theorem f8_ev (k : Int) (d : List UInt8) (hd : d.length ≤ 1000) : Ev (fun R m K => f8 m k d K) (fun R K => K (oid k d)) := Lp.ev (step := fun R m K => f8.step m K) <| .ret <| by
  have htl := text_length k d hd
  obtain ⟨N1, e1⟩ := f11_ev k d (by omega)
  obtain ⟨N2, e2⟩ := f24_ev (text k d) (by omega)
  obtain ⟨N3, e3⟩ := f23_ev (sha (text k d)) (by rw [sha_length]; omega)
  refine ⟨N1 + N2 + N3, fun m hm R K call => ?_⟩
  simp only [f8.step]
  refine (e1 m (by omega) R _).trans ?_
  refine (e2 m (by omega) R _).trans ?_
  exact e3 m (by omega) R _
theorem f19_ev (k : Int) (d : List UInt8) (hd : d.length ≤ 1000) (hc : check k d = 0) : Ev (fun R m K => f19 m k d K) (fun R K => K (oid k d) 0) := Lp.ev (step := fun R m K => f19.step m K) <| .ret <| by
  have htl := text_length k d hd
  obtain ⟨N1, e1⟩ := f18_ev k d (by omega)
  obtain ⟨N2, e2⟩ := f43_ev (text k d) (by omega)
  obtain ⟨N3, e3⟩ := f42_ev (sha (text k d)) (by rw [sha_length]; omega)
  refine ⟨N1 + N2 + N3, fun m hm R K call => ?_⟩
  simp only [f19.step]
  refine (e1 m (by omega) R _).trans ?_
  dsimp only
  rw [if_pos hc]
  simp (disch := omega) only [SS]
  refine (e2 m (by omega) R _).trans ?_
  exact e3 m (by omega) R _
theorem f5_bad (k : Int) (d : List UInt8) (hd : d.length ≤ 1000) (hc : check k d ≠ 0) : Ev (fun R m K => f5 m k d K) (fun R K => K [] [] (check k d)) := Lp.ev (step := fun R m K => f5.step m K) <| .ret <| by
  obtain ⟨N1, e1⟩ := f18_ev k d (by omega)
  refine ⟨N1, fun m hm R K call => ?_⟩
  simp only [f5.step]
  refine (e1 m (by omega) R _).trans ?_
  dsimp only
  rw [if_neg hc]
  rw [df hc]
  rfl
theorem f5_ev (k : Int) (d : List UInt8) (hd : d.length ≤ 1000) (hc : check k d = 0) : ∃ r, Fx (text k d) r ∧ Ev (fun R m K => f5 m k d K) (fun R K => K (path (oid k d)) (frame r (text k d)) 0) := by
  have htl := text_length k d hd
  obtain ⟨r, hF, N4, e4⟩ := f21_ev (text k d) (by omega)
  obtain ⟨N1, e1⟩ := f18_ev k d (by omega)
  obtain ⟨N2, e2⟩ := f19_ev k d hd hc
  obtain ⟨N3, e3⟩ := f20_ev (sha (text k d)) (sha_length _)
  refine ⟨r, hF, Lp.ev (step := fun R m K => f5.step m K) <| .ret ⟨N1 + N2 + N3 + N4, fun m hm R K call => ?_⟩⟩
  simp only [f5.step]
  refine (e1 m (by omega) R _).trans ?_
  dsimp only
  rw [if_pos hc]
  simp (disch := omega) only [SS]
  refine (e2 m (by omega) R _).trans ?_
  refine (e3 m (by omega) R _).trans ?_
  exact e4 m (by omega) R _
end Go.Proofs.YtidncoebfnabcaaGreatDoor
namespace Go.Proofs.YtidncoebfnabcaaGreatDoor
open Go.AM

/-! ### The order of paths -/
abbrev cmp := Lib.compareBytes
theorem cmp_self : ∀ a : List UInt8, cmp a a = 0
  | [] => rfl
  | a :: l => by
    have := cmp_self l
    simpa [cmp, Lib.compareBytes] using this
theorem cmp_eq : ∀ a b : List UInt8, cmp a b = 0 → a = b
  | [], [], _ => rfl
  | [], _ :: _, h => by simp [cmp, Lib.compareBytes] at h
  | _ :: _, [], h => by simp [cmp, Lib.compareBytes] at h
  | a :: u, b :: v, h => by
    simp only [cmp, Lib.compareBytes] at h
    split at h
    · simp at h
    · split at h
      · simp at h
      · rename_i h1 h2
        have e : a = b := by
          apply UInt8.toNat_inj.1
          simp only [UInt8.lt_iff_toNat_lt] at h1 h2; omega
        rw [e, cmp_eq u v h]
theorem cmp_anti : ∀ a b : List UInt8, cmp b a = - cmp a b
  | [], [] => rfl
  | [], _ :: _ => rfl
  | _ :: _, [] => rfl
  | a :: u, b :: v => by
    have ih := cmp_anti u v
    simp only [cmp, Lib.compareBytes, UInt8.lt_iff_toNat_lt] at ih ⊢
    split
    · rw [if_neg (by omega)]
      try (split <;> simp_all)
    · split
      · try simp_all
      · try simp_all
theorem cmp_trans : ∀ a b c : List UInt8, cmp a b ≤ 0 → cmp b c ≤ 0 → cmp a c ≤ 0
  | [], [], c, _, h => h
  | [], _ :: _, [], _, _ => by decide
  | [], _ :: _, _ :: _, _, _ => by simp [cmp, Lib.compareBytes]
  | _ :: _, [], _, h, _ => by simp [cmp, Lib.compareBytes] at h
  | _ :: _, _ :: _, [], _, h => by simp [cmp, Lib.compareBytes] at h
  | a :: u, b :: v, c :: t, h1, h2 => by
    have ih := cmp_trans u v t
    simp only [cmp, Lib.compareBytes, UInt8.lt_iff_toNat_lt] at h1 h2 ih ⊢
    by_cases x1 : a.toNat < b.toNat
    · by_cases y1 : b.toNat < c.toNat
      · rw [if_pos (by omega)]; decide
      · by_cases y2 : c.toNat < b.toNat
        · rw [if_neg y1, if_pos y2] at h2; simp at h2
        · rw [if_pos (by omega)]; decide
    · by_cases x2 : b.toNat < a.toNat
      · rw [if_neg x1, if_pos x2] at h1; simp at h1
      · rw [if_neg x1, if_neg x2] at h1
        by_cases y1 : b.toNat < c.toNat
        · rw [if_pos (by omega)]; decide
        · by_cases y2 : c.toNat < b.toNat
          · rw [if_neg y1, if_pos y2] at h2; simp at h2
          · rw [if_neg y1, if_neg y2] at h2
            rw [if_neg (by omega), if_neg (by omega)]
            exact ih h1 h2
def le (a b : FileT) : Prop := cmp a.1 b.1 ≤ 0
theorem f32_ev (a b c d : List UInt8) : Ev (fun R m K => f32 m a b c d K) (fun R K => K (cmp a c)) := Lp.ev (step := fun R m K => f32.step m K) <| .ret ⟨1, fun m hm R K call => by
  obtain ⟨k, rfl⟩ : ∃ k, m = k + 1 := ⟨m - 1, by omega⟩
  simp only [f32.step, f63, iter, f63.step, x106]⟩

/-! ### Insertion sort -/
abbrev f96P (s : f96.St) (res : ∀ R, (List FileT → Option R) → Option R) : Prop := Lp (κ := fun R => List FileT → Option R) (fun R m K => f96.step m K) s res
theorem getD_at {α : Type} (A B : List α) (j : Nat) (z : α) : (A ++ B).getD (A.length + j) z = B.getD j z := by
  simp [List.getD_eq_getElem?_getD, List.getElem?_append_right]
theorem swap_set {α : Type} (A T : List α) (y x : α) : ((A ++ y :: x :: T).set (A.length + 1) y).set A.length x = A ++ x :: y :: T := by
  rw [List.set_append_right _ _ (by omega), show A.length + 1 - A.length = 1 by omega]
  rw [List.set_append_right _ _ (by omega), show A.length - A.length = 0 by omega]
  rfl
theorem sorted_mid {A B : List FileT} {x : FileT} (h1 : (A ++ B).Pairwise le) (h2 : ∀ b ∈ B, le x b) (h3 : ∀ a ∈ A, le a x) : (A ++ x :: B).Pairwise le := by
  rw [List.pairwise_append] at h1 ⊢
  refine ⟨h1.1, List.pairwise_cons.2 ⟨h2, h1.2.1⟩, fun a ha b hb => ?_⟩
  rcases List.mem_cons.1 hb with rfl | hb
  · exact h3 a ha
  · exact h1.2.2 a ha b hb
theorem f96_in {n : Nat} (hn : n ≤ 12) : ∀ (A : List FileT) (x : FileT) (B C : List FileT), (A ++ x :: (B ++ C)).length = n → (A ++ B).Pairwise le → (∀ b ∈ B, le x b) →
    ∃ l', (A ++ x :: (B ++ C)).Perm l' ∧ (l'.take (A.length + B.length + 1)).Pairwise le ∧ ∀ res, f96P (.s1 0 (n : Int) ((A.length + B.length + 1 : Nat) : Int) l') res → f96P (.s2 0 (n : Int) ((A.length + B.length : Nat) : Int) (A.length : Int) (A ++ x :: (B ++ C))) res := by
  intro A
  induction h : A.length generalizing A with
  | zero =>
    intro x B C hl hs hb
    obtain rfl := List.eq_nil_of_length_eq_zero h
    refine ⟨_, .refl _, ?_, fun res hr => .next0 _ (fun m R K call => ?_) hr⟩
    · have e : List.take (0 + B.length + 1) ([] ++ x :: (B ++ C)) = [] ++ x :: B := by
        rw [show 0 + B.length + 1 = (x :: B).length by simp, show ([] ++ x :: (B ++ C)) = (x :: B) ++ C by simp, List.take_left]; rfl
      rw [e]
      exact sorted_mid hs hb (fun a ha => by simp at ha)
    · simp only [List.length_append, List.length_cons, List.length_nil] at hl
      simp (disch := omega) only [SS, f96.step]
      rfl
  | succ k ih =>
    intro x B C hl hs hb
    obtain ⟨A, y, rfl⟩ : ∃ p b, A = p ++ [b] := ⟨A.dropLast, A.getLast (by intro e; simp [e] at h), (List.dropLast_concat_getLast _).symm⟩
    have hA : A.length = k := by simpa using h
    have hl' := hl
    simp only [List.length_append, List.length_cons, List.length_nil] at hl'
    obtain ⟨N, e⟩ := f32_ev x.1 x.2 y.1 y.2
    have g1 : List.getD (A ++ [y] ++ x :: (B ++ C)) (k + 1) (([] : List UInt8), ([] : List UInt8)) = x := by rw [← h]; exact getD_mid _ _ _ _
    have g2 : List.getD (A ++ [y] ++ x :: (B ++ C)) k (([] : List UInt8), ([] : List UInt8)) = y := by rw [← hA, List.append_assoc]; exact getD_mid _ _ _ _
    have q : ((k + 1 : Nat) : Int) - 1 = (k : Int) := by omega
    have hll : (A ++ [y] ++ x :: (B ++ C)).length = n := hl
    by_cases hc : cmp x.1 y.1 < 0
    · have hs' : (A ++ y :: B).Pairwise le := by simpa using hs
      obtain ⟨l', p1, p2, p3⟩ := ih A hA x (y :: B) C (by simp only [List.length_append, List.length_cons]; omega) hs' (fun b hb' => by
        rcases List.mem_cons.1 hb' with rfl | hb'
        · exact Int.le_of_lt hc
        · exact hb b hb')
      have hlen : k + (y :: B).length = k + 1 + B.length := by simp; omega
      rw [hlen] at p2 p3
      refine ⟨l', .trans ?_ p1, p2, fun res hr => .next _ ⟨N, fun m hm R K call => ?_⟩ (p3 res hr)⟩
      · rw [List.append_assoc]
        exact .append_left _ (.swap _ _ _)
      · have hset := swap_set A (B ++ C) y x
        rw [hA] at hset
        have he : A ++ [y] ++ x :: (B ++ C) = A ++ y :: x :: (B ++ C) := by simp
        simp only [f96.step]
        rw [w64 (n := ((k + 1 : Nat) : Int) - 1) (by omega), q]
        simp (disch := omega) only [SS, g1, g2, hll]
        refine (e m hm R _).trans ?_
        dsimp only
        rw [dt hc]
        rw [he, hset]
        rfl
    · refine ⟨_, .refl _, ?_, fun res hr => .next _ ⟨N, fun m hm R K call => ?_⟩ hr⟩
      · have e : List.take (k + 1 + B.length + 1) (A ++ [y] ++ x :: (B ++ C)) = (A ++ [y]) ++ x :: B := by
          rw [show k + 1 + B.length + 1 = ((A ++ [y]) ++ x :: B).length by simp; omega, show (A ++ [y] ++ x :: (B ++ C)) = ((A ++ [y]) ++ x :: B) ++ C by simp, List.take_left]
        rw [e]
        have hyx : le y x := by
          show cmp y.1 x.1 ≤ 0
          rw [cmp_anti]; omega
        refine sorted_mid hs hb (fun a ha => ?_)
        rcases List.mem_append.1 ha with ha | ha
        · have h1 := (List.pairwise_append.1 (List.pairwise_append.1 hs).1).2.2 a ha y (by simp)
          exact cmp_trans _ _ _ h1 hyx
        · simp only [List.mem_singleton] at ha; rw [ha]; exact hyx
      · simp only [f96.step]
        rw [w64 (n := ((k + 1 : Nat) : Int) - 1) (by omega), q]
        simp (disch := omega) only [SS, g1, g2, hll]
        refine (e m hm R _).trans ?_
        dsimp only
        rw [df hc]
        simp (disch := omega) only [SS]
        rfl
theorem f96_lp {n : Nat} (hn : n ≤ 12) : ∀ t i (l : List FileT), 1 ≤ i → i + t = n → l.length = n → (l.take i).Pairwise le → ∃ l', l.Perm l' ∧ l'.Pairwise le ∧ f96P (.s1 0 (n : Int) (i : Int) l) (fun R K => K l') := by
  intro t
  induction t with
  | zero =>
    intro i l h1 hi hl hs
    rw [List.take_of_length_le (by omega)] at hs
    exact ⟨l, .refl _, hs, .ret0 fun m R K call => by simp (disch := omega) only [SS, f96.step]⟩
  | succ t ih =>
    intro i l h1 hi hl hs
    have hsplit : l = l.take i ++ l.getD i ([], []) :: l.drop (i + 1) := by
      have e : l.getD i ([], []) = l[i]'(by omega) := by simp [show i < l.length by omega]
      rw [e, ← List.drop_eq_getElem_cons, List.take_append_drop]
    have hti : (l.take i).length = i := by rw [List.length_take]; omega
    obtain ⟨l1, p1, p2, p3⟩ := f96_in hn (l.take i) (l.getD i ([], [])) [] (l.drop (i + 1)) (by rw [List.nil_append, ← hsplit]; exact hl) (by rw [List.append_nil]; exact hs) (fun b hb => by simp at hb)
    rw [List.nil_append, ← hsplit] at p1 p3
    rw [hti] at p2 p3
    simp only [List.length_nil, Nat.add_zero] at p2 p3
    have hl1 : l1.length = n := by rw [← p1.length_eq]; exact hl
    obtain ⟨l2, r1, r2, r3⟩ := ih (i + 1) l1 (by omega) (by omega) hl1 p2
    refine ⟨l2, p1.trans r1, r2, .next0 _ (fun m R K call => ?_) (p3 _ r3)⟩
    simp (disch := omega) only [SS, f96.step]
theorem f31_ev (l : List FileT) (h1 : 1 ≤ l.length) (hn : l.length ≤ 11) : ∃ l', l.Perm l' ∧ l'.Pairwise le ∧ Ev (fun R m K => f31 m l K) (fun R K => K l') := by
  obtain ⟨l', p1, p2, p3⟩ := f96_lp (n := l.length) (by omega) (l.length - 1) 1 l (by omega) (by omega) rfl (by
    match l, h1 with
    | x :: l, _ => simp)
  refine ⟨l', p1, p2, ?_⟩
  have h96 : Ev (κ := fun R => List FileT → Option R) (fun R m K => f96 m 0 (l.length : Int) l K) (fun R K => K l') := Lp.ev (step := fun R m K => f96.step m K) (.next0 _ (fun m R K call => rfl) p3)
  have h62 : ∃ v : Int, Ev (fun R m K => f62 m (l.length : Int) K) (fun R K => K v) :=
    ⟨((([0, 1, 2, 2, 3, 3, 3, 3, 4, 4, 4, 4] : List Nat).getD l.length 0 : Nat) : Int), .closed 10 fun k R K => range_inj (n := 12) (f := fun s => f62 (k + 10) (s : Int) K) (g := fun s => K ((([0, 1, 2, 2, 3, 3, 3, 3, 4, 4, 4, 4] : List Nat).getD s 0 : Nat) : Int)) (by kernel_rfl) l.length (by omega)⟩
  obtain ⟨N1, e1⟩ := h96
  obtain ⟨v, N2, e2⟩ := h62
  refine Lp.ev (step := fun R m K => f31.step m K) (.ret ⟨N1 + N2 + 5, fun m hm R K call => ?_⟩)
  simp only [f31.step]
  rw [wu64 (by omega)]
  refine (e2 m (by omega) R _).trans ?_
  have e1 : ∀ K, f96 (R := R) m 0 (l.length : Int) l K = K l' := e1 m (by omega) R
  obtain ⟨k, rfl⟩ : ∃ k, m = k + 2 := ⟨m - 2, by omega⟩
  simp only [f61, iter, f61.step]
  rw [w64 (by omega), dt (by omega)]
  simp only [cond_true]
  rw [e1]
end Go.Proofs.YtidncoebfnabcaaGreatDoor
namespace Go.Proofs.YtidncoebfnabcaaGreatDoor
open Go.AM

/-! ### Binary search -/
abbrev at1 (l : List FileT) (i : Nat) : List UInt8 := (l.getD i (([] : List UInt8), ([] : List UInt8))).1
theorem f67_ev (l : List FileT) (t : List UInt8) (hl : l.length ≤ 1000) : ∃ r : Nat, r ≤ l.length ∧ (r = 0 ∨ cmp (at1 l (r - 1)) t < 0) ∧ (r < l.length → ¬ cmp (at1 l r) t < 0) ∧
    Ev (κ := fun R => Int → Bool → Option R) (fun R m K => f67 m l t [] K) (fun R K => K (r : Int) (decide (r < l.length ∧ cmp (at1 l r) t = 0))) := by
  have st : ∀ n i j : Nat, j - i ≤ n → i ≤ j → j ≤ l.length → (i = 0 ∨ cmp (at1 l (i - 1)) t < 0) → (j < l.length → ¬ cmp (at1 l j) t < 0) →
      ∃ r : Nat, r ≤ l.length ∧ (r = 0 ∨ cmp (at1 l (r - 1)) t < 0) ∧ (r < l.length → ¬ cmp (at1 l r) t < 0) ∧
        Lp (κ := fun R => Int → Bool → Option R) (fun R m K => f67.step m K) (.s1 l (l.length : Int) (i : Int) (j : Int) t []) (fun R K => K (r : Int) (decide (r < l.length ∧ cmp (at1 l r) t = 0))) := by
    have fin1 : ∀ i : Nat, i ≤ l.length → Lp (κ := fun R => Int → Bool → Option R) (fun R m K => f67.step m K) (.s1 l (l.length : Int) (i : Int) (i : Int) t []) (fun R K => K (i : Int) (decide (i < l.length ∧ cmp (at1 l i) t = 0))) := by
      intro i hi
      by_cases hil : i < l.length
      · obtain ⟨N, e⟩ := f32_ev (at1 l i) (l.getD i (([] : List UInt8), ([] : List UInt8))).2 t []
        refine .ret ⟨N, fun m hm R K call => ?_⟩
        simp only [f67.step]
        simp (disch := omega) only [SS]
        refine (e m hm R _).trans ?_
        simp [hil]
      · refine .ret0 fun m R K call => ?_
        have : ¬ (i < l.length ∧ cmp (at1 l i) t = 0) := fun h => hil h.1
        simp only [f67.step]
        simp (disch := omega) only [SS, df this]
    intro n
    induction n with
    | zero =>
      intro i j hn hij hj h1 h2
      obtain rfl : i = j := (by omega)
      exact ⟨i, hj, h1, h2, fin1 i hj⟩
    | succ n ih =>
      intro i j hn hij hj h1 h2
      by_cases he : i = j
      · subst he
        exact ⟨i, hj, h1, h2, fin1 i hj⟩
      · obtain ⟨N, e⟩ := f32_ev (at1 l ((i + j) / 2)) (l.getD ((i + j) / 2) (([] : List UInt8), ([] : List UInt8))).2 t []
        have q : (((i : Int) + (j : Int)) / 2) = (((i + j) / 2 : Nat) : Int) := by omega
        by_cases hc : cmp (at1 l ((i + j) / 2)) t < 0
        · obtain ⟨r, r1, r2, r3, r4⟩ := ih ((i + j) / 2 + 1) j (by omega) (by omega) hj (.inr (by rw [Nat.add_sub_cancel]; exact hc)) h2
          refine ⟨r, r1, r2, r3, .next _ ⟨N, fun m hm R K call => ?_⟩ r4⟩
          simp only [f67.step]
          simp (disch := omega) only [SS, fdv, wu64, q]
          refine (e m hm R _).trans ?_
          dsimp only
          rw [dt hc]
          rfl
        · obtain ⟨r, r1, r2, r3, r4⟩ := ih i ((i + j) / 2) (by omega) (by omega) (by omega) h1 (fun _ => hc)
          refine ⟨r, r1, r2, r3, .next _ ⟨N, fun m hm R K call => ?_⟩ r4⟩
          simp only [f67.step]
          simp (disch := omega) only [SS, fdv, wu64, q]
          refine (e m hm R _).trans ?_
          dsimp only
          rw [df hc]
          rfl
  obtain ⟨r, r1, r2, r3, r4⟩ := st l.length 0 l.length (by omega) (by omega) (by omega) (.inl rfl) (fun h => by omega)
  exact ⟨r, r1, r2, r3, Lp.ev (step := fun R m K => f67.step m K) (.next0 _ (fun m R K call => rfl) r4)⟩

/-! ### Under -/
theorem f68_ev (a b : List UInt8) : Ev (fun R m K => f68 m a b K) (fun R K => K (decide (b.length ≤ a.length ∧ a.take b.length = b))) := Lp.ev (step := fun R m K => f68.step m K) <| .ret ⟨1, fun m hm R K call => by
  obtain ⟨k, rfl⟩ : ∃ k, m = k + 1 := ⟨m - 1, by omega⟩
  simp only [f68.step, f109, iter, f109.step]
  by_cases h : b.length ≤ a.length
  · simp (disch := omega) only [SS]
    simp [h]
  · have : ¬ (b.length ≤ a.length ∧ a.take b.length = b) := fun h' => h h'.1
    simp (disch := omega) only [SS, df this]⟩
abbrev KU (R : Type) := List (List UInt8) → Int → List FileT → Option R
theorem f34_ev (p : List UInt8) (tot : Int) (l : List FileT) (hl : l.length ≤ 1000) : ∃ r : List (List UInt8), Ev (κ := KU) (fun R m K => f34 m p tot l K) (fun R K => K r tot l) := by
  obtain ⟨r0, h0, _, _, N0, e0⟩ := f67_ev l p hl
  have st : ∀ n i : Nat, l.length - i ≤ n → i ≤ l.length → ∀ acc : List (List UInt8), acc.length ≤ i → ∃ r : List (List UInt8), Lp (κ := KU) (fun R m K => f34.step m K) (.s1 p (i : Int) tot l acc) (fun R K => K r tot l) := by
    intro n
    induction n with
    | zero =>
      intro i hn hi acc ha
      exact ⟨acc, .ret0 fun m R K call => by simp (disch := omega) only [SS, f34.step]⟩
    | succ n ih =>
      intro i hn hi acc ha
      by_cases he : i < l.length
      · obtain ⟨N, e⟩ := f68_ev (at1 l i) p
        cases hd : decide (p.length ≤ (at1 l i).length ∧ (at1 l i).take p.length = p) with
        | false =>
          refine ⟨acc, .ret ⟨N, fun m hm R K call => ?_⟩⟩
          rw [hd] at e
          simp only [f34.step]
          simp (disch := omega) only [SS]
          exact e m hm R _
        | true =>
          obtain ⟨r, hr⟩ := ih (i + 1) (by omega) (by omega) (acc ++ [at1 l i]) (by simp; omega)
          refine ⟨r, .next _ ⟨N, fun m hm R K call => ?_⟩ hr⟩
          rw [hd] at e
          simp only [f34.step]
          simp (disch := omega) only [SS]
          refine (e m hm R _).trans ?_
          simp (disch := omega) only [SS]
          rfl
      · exact ⟨acc, .ret0 fun m R K call => by simp (disch := omega) only [SS, f34.step]⟩
  obtain ⟨r, hr⟩ := st l.length r0 (by omega) h0 [] (by simp)
  refine ⟨r, Lp.ev (step := fun R m K => f34.step m K) (.next _ ⟨N0, fun m hm R K call => ?_⟩ hr)⟩
  simp only [f34.step]
  exact e0 m hm R _

/-! ### The snapshot -/
abbrev SnapT := Option (List FileT × Int)
abbrev KS (R : Type) := SnapT → Int → Option R
def Distinct (l : List FileT) : Prop := ∀ i, 0 < i → i < l.length → at1 l (i - 1) ≠ at1 l i
abbrev f14P (s : f14.St) (res : ∀ R, KS R → Option R) : Prop := Lp (κ := KS) (fun R m K => f14.step m K) s res
theorem f14_s3 (l : List FileT) (tot : Int) (hl : l.length ≤ 1000) (hp : ∀ f ∈ l, f.1.length ≤ 200) : ∀ n i : Nat, l.length - i ≤ n → i ≤ l.length → f14P (.s3 (l.length : Int) (i : Int) tot l) (fun R K => K none 4) ∨ f14P (.s3 (l.length : Int) (i : Int) tot l) (fun R K => K (some (l, tot)) 0) := by
  intro n
  induction n with
  | zero =>
    intro i hn hi
    exact .inr (.ret0 fun m R K call => by simp (disch := omega) only [SS, f14.step])
  | succ n ih =>
    intro i hn hi
    by_cases he : i < l.length
    · have hx : (l.getD i (([] : List UInt8), ([] : List UInt8))).1.length ≤ 200 := hp _ (by
        have : l.getD i (([] : List UInt8), ([] : List UInt8)) = l[i] := by simp [he]
        rw [this]; exact List.getElem_mem he)
      obtain ⟨r, N, e⟩ := f34_ev (at1 l i ++ [47]) tot l hl
      by_cases h0 : 0 < r.length
      · refine .inl (.ret ⟨N, fun m hm R K call => ?_⟩)
        simp only [f14.step]
        simp (disch := omega) only [SS]
        refine (e m hm R _).trans ?_
        simp (disch := omega) only [SS]
      · have step : ∀ res, f14P (.s3 (l.length : Int) ((i + 1 : Nat) : Int) tot l) res → f14P (.s3 (l.length : Int) (i : Int) tot l) res := fun res hr => .next _ ⟨N, fun m hm R K call => by
          simp only [f14.step]
          simp (disch := omega) only [SS]
          refine (e m hm R _).trans ?_
          simp (disch := omega) only [SS]
          rfl⟩ hr
        rcases ih (i + 1) (by omega) (by omega) with h | h
        · exact .inl (step _ h)
        · exact .inr (step _ h)
    · exact .inr (.ret0 fun m R K call => by simp (disch := omega) only [SS, f14.step])
theorem clean_len {s : List UInt8} (h : cleanF s = true) : s.length ≤ 200 := by
  simp only [cleanF, Bool.and_eq_true, Bool.not_eq_true', decide_eq_false_iff_not] at h
  omega
theorem f14_s2 (l : List FileT) (tot : Int) (hl : l.length ≤ 1000) : ∀ n i : Nat, l.length - i ≤ n → i ≤ l.length → (∀ j, j < i → (at1 l j).length ≤ 200) → (∀ j, 0 < j → j < i → at1 l (j - 1) ≠ at1 l j) →
    f14P (.s2 (l.length : Int) (i : Int) tot l) (fun R K => K none 4) ∨ (Distinct l ∧ f14P (.s2 (l.length : Int) (i : Int) tot l) (fun R K => K (some (l, tot)) 0)) := by
  intro n
  have hend : (∀ j, j < l.length → (at1 l j).length ≤ 200) → (∀ j, 0 < j → j < l.length → at1 l (j - 1) ≠ at1 l j) → f14P (.s2 (l.length : Int) (l.length : Int) tot l) (fun R K => K none 4) ∨ (Distinct l ∧ f14P (.s2 (l.length : Int) (l.length : Int) tot l) (fun R K => K (some (l, tot)) 0)) := by
    intro h1 h2
    have hp : ∀ f ∈ l, f.1.length ≤ 200 := by
      intro f hf
      obtain ⟨i, hi, rfl⟩ := List.mem_iff_getElem.1 hf
      have := h1 i hi
      simpa [at1, hi] using this
    have step : ∀ res, f14P (.s3 (l.length : Int) 0 tot l) res → f14P (.s2 (l.length : Int) (l.length : Int) tot l) res := fun res hr => .next0 _ (fun m R K call => by simp (disch := omega) only [SS, f14.step]) hr
    rcases f14_s3 l tot hl hp l.length 0 (by omega) (by omega) with h | h
    · exact .inl (step _ h)
    · exact .inr ⟨fun i hi hil => h2 i hi hil, step _ h⟩
  induction n with
  | zero =>
    intro i hn hi h1 h2
    obtain rfl : i = l.length := (by omega)
    exact hend h1 h2
  | succ n ih =>
    intro i hn hi h1 h2
    by_cases he : i = l.length
    · subst he; exact hend h1 h2
    · cases hc : cleanF (at1 l i) with
      | false =>
        refine .inl (.ret0 fun m R K call => ?_)
        simp only [f14.step, x33]
        simp (disch := omega) only [SS, hc]
      | true =>
        have hlen := clean_len hc
        by_cases h0 : 0 < i
        · have q : ((i : Int) - 1).toNat = i - 1 := by omega
          by_cases hne : at1 l (i - 1) = at1 l i
          · refine .inl (.ret0 fun m R K call => ?_)
            simp only [f14.step, x33]
            simp (disch := omega) only [SS, hc, q, dt hne]
          · have step : ∀ res, f14P (.s2 (l.length : Int) ((i + 1 : Nat) : Int) tot l) res → f14P (.s2 (l.length : Int) (i : Int) tot l) res := fun res hr => .next0 _ (fun m R K call => by
              simp only [f14.step, x33]
              simp (disch := omega) only [SS, hc, q, df hne]
              rfl) hr
            rcases ih (i + 1) (by omega) (by omega) (fun j hj => by
              by_cases hji : j = i
              · subst hji; exact hlen
              · exact h1 j (by omega)) (fun j hj0 hj => by
              by_cases hji : j = i
              · subst hji; exact hne
              · exact h2 j hj0 (by omega)) with h | h
            · exact .inl (step _ h)
            · exact .inr ⟨h.1, step _ h.2⟩
        · obtain rfl : i = 0 := (by omega)
          have step : ∀ res, f14P (.s2 (l.length : Int) ((0 + 1 : Nat) : Int) tot l) res → f14P (.s2 (l.length : Int) ((0 : Nat) : Int) tot l) res := fun res hr => .next0 _ (fun m R K call => by
            simp only [f14.step, x33]
            simp (disch := omega) only [SS, hc]
            rfl) hr
          rcases ih (0 + 1) (by omega) (by omega) (fun j hj => by
            obtain rfl : j = 0 := (by omega)
            exact hlen) (fun j hj0 hj => by omega) with h | h
          · exact .inl (step _ h)
          · exact .inr ⟨h.1, step _ h.2⟩
def total : List FileT → Nat
  | [] => 0
  | f :: l => f.2.length + total l
theorem f14_s1 (fs l : List FileT) (hl : l.length ≤ 1000) (hb : ∀ f ∈ fs, f.2.length ≤ 10000) (hfs : fs.length ≤ 300) : ∀ (suf pre : List FileT) (t : Nat), fs = pre ++ suf → t ≤ 10000 * pre.length → ∀ res, f14P (.s1 fs fs (fs.length : Int) (fs.length : Int) ((t + total suf : Nat) : Int) l) res → f14P (.s1 fs fs (fs.length : Int) (pre.length : Int) (t : Int) l) res
  | [], pre, t, h, ht, res, hr => by
    rw [List.append_nil] at h
    subst h
    simpa [total] using hr
  | f :: suf, pre, t, h, ht, res, hr => by
    have hf : f.2.length ≤ 10000 := hb f (by rw [h]; simp)
    have hlen : fs.length = pre.length + (suf.length + 1) := by rw [h]; simp
    have := f14_s1 fs l hl hb hfs suf (pre ++ [f]) (t + f.2.length) (by rw [h]; simp) (by simp; omega) res (by rw [show t + f.2.length + total suf = t + total (f :: suf) by simp [total]; omega]; exact hr)
    refine .next0 _ (fun m R K call => ?_) this
    have hg : fs.getD pre.length (([] : List UInt8), ([] : List UInt8)) = f := by rw [h]; exact getD_mid _ _ _ _
    simp (disch := omega) only [SS, f14.step, hg]
    simp
theorem total_le : ∀ l : List FileT, (∀ f ∈ l, f.2.length ≤ 10000) → total l ≤ 10000 * l.length
  | [], _ => by simp [total]
  | f :: l, h => by
    have h1 := h f (by simp)
    have h2 := total_le l (fun g hg => h g (by simp [hg]))
    simp only [total, List.length_cons]; omega
theorem f14_ev (fs : List FileT) (h1 : 1 ≤ fs.length) (h11 : fs.length ≤ 11) (hb : ∀ f ∈ fs, f.2.length ≤ 10000) :
    Ev (κ := KS) (fun R m K => f14 m fs K) (fun R K => K none 4) ∨ ∃ (l : List FileT) (tot : Int), fs.Perm l ∧ l.Pairwise le ∧ Distinct l ∧ Ev (κ := KS) (fun R m K => f14 m fs K) (fun R K => K (some (l, tot)) 0) := by
  obtain ⟨l, p1, p2, N, e⟩ := f31_ev fs h1 h11
  have hl : l.length = fs.length := p1.length_eq.symm
  have htot := total_le fs hb
  have step : ∀ res, f14P (.s2 (l.length : Int) ((0 : Nat) : Int) ((total fs : Nat) : Int) l) res → Ev (κ := KS) (fun R m K => f14 m fs K) res := by
    intro res hr
    have hs1 : f14P (.s1 fs fs (fs.length : Int) (fs.length : Int) ((0 + total fs : Nat) : Int) fs) res := by
      refine .next _ ⟨N, fun m hm R K call => ?_⟩ hr
      rw [Nat.zero_add]
      simp only [f14.step]
      simp (disch := omega) only [SS]
      exact e m hm R _
    have hs0 := f14_s1 fs fs (by omega) hb (by omega) fs [] 0 rfl (by simp) res hs1
    refine Lp.ev (step := fun R m K => f14.step m K) (.next0 _ (fun m R K call => ?_) hs0)
    simp only [f14.step, x30]
    simp (disch := omega) only [SS]
    rfl
  rcases f14_s2 l (total fs : Nat) (by omega) l.length 0 (by omega) (by omega) (fun j hj => by omega) (fun j _ hj => by omega) with h | h
  · exact .inl (step _ h)
  · exact .inr ⟨l, _, p1, p2, h.1, step _ h.2⟩

/-! ### Get finds the file -/
theorem pw_at {l : List FileT} (h : l.Pairwise le) {i j : Nat} (hij : i < j) (hj : j < l.length) : cmp (at1 l i) (at1 l j) ≤ 0 := by
  have := List.pairwise_iff_getElem.1 h i j (by omega) hj hij
  simpa [at1, le, hj, show i < l.length by omega] using this
theorem f36_ev (l : List FileT) (tot : Int) (hl : l.length ≤ 1000) (hs : l.Pairwise le) (hd : Distinct l) (p c : List UInt8) (hm : (p, c) ∈ l) : Ev (κ := fun R => List UInt8 → Int → Option R) (fun R m K => f36 m (some (l, tot)) p K) (fun R K => K c 0) := by
  obtain ⟨r, r1, r2, r3, N, e⟩ := f67_ev l p hl
  obtain ⟨q, hq, hqe⟩ := List.mem_iff_getElem.1 hm
  have hat : at1 l q = p := by simp [at1, hq, hqe]
  have hrq : r = q := by
    rcases Nat.lt_trichotomy r q with h | h | h
    · exfalso
      have h1 := r3 (by omega)
      have h2 := pw_at hs h hq
      rw [hat] at h2
      have h0 : cmp (at1 l r) p = 0 := by omega
      have e1 := cmp_eq _ _ h0
      -- the next one is equal, too
      have hn := hd (r + 1) (by omega) (by omega)
      rw [Nat.add_sub_cancel, e1] at hn
      have h3 := pw_at hs (show r < r + 1 by omega) (by omega)
      rw [e1] at h3
      by_cases hrq' : r + 1 = q
      · rw [hrq', hat] at hn; exact hn rfl
      · have h4 := pw_at hs (show r + 1 < q by omega) hq
        rw [hat] at h4
        have h5 := cmp_anti p (at1 l (r + 1))
        exact hn (cmp_eq _ _ (by omega))
    · exact h
    · exfalso
      rcases r2 with h0 | h0
      · omega
      · by_cases hrq' : r - 1 = q
        · rw [hrq', hat, cmp_self] at h0; omega
        · have h1 := pw_at hs (show q < r - 1 by omega) (by omega)
          rw [hat] at h1
          have h2 := cmp_anti p (at1 l (r - 1))
          omega
  subst hrq
  have hfound : decide (r < l.length ∧ cmp (at1 l r) p = 0) = true := dt ⟨hq, by rw [hat]; exact cmp_self p⟩
  rw [hfound] at e
  refine Lp.ev (step := fun R m K => f36.step m K) (.ret ⟨N, fun m hm R K call => ?_⟩)
  simp only [f36.step, deref]
  refine (e m hm R _).trans ?_
  have hg : l.getD r (([] : List UInt8), ([] : List UInt8)) = (p, c) := by simp [hq, hqe]
  simp (disch := omega) only [SS, hg]
end Go.Proofs.YtidncoebfnabcaaGreatDoor
namespace Go.Proofs.YtidncoebfnabcaaGreatDoor
open Go.AM

/-! ### The law -/
theorem f16_ev (k : Int) (d r : List UInt8) (hk : 1 ≤ k ∧ k ≤ 4) (hd : d.length ≤ 1000) (hc : check k d = 0) (hF : Fx (text k d) r) (l : List FileT) (tot : Int) (hl : l.length ≤ 1000) (hs : l.Pairwise le) (hdi : Distinct l) (hm : (path (oid k d), frame r (text k d)) ∈ l) :
    Ev (κ := fun R => Int → List UInt8 → Int → Option R) (fun R m K => f16 m (some (l, tot)) (oid k d) K) (fun R K => K k d 0) := Lp.ev (step := fun R m K => f16.step m K) <| .ret <| by
  obtain ⟨N1, e1⟩ := f20_ev (sha (text k d)) (sha_length _)
  obtain ⟨N2, e2⟩ := f36_ev l tot hl hs hdi _ _ hm
  obtain ⟨N3, e3⟩ := f17_ev k d r hk hd hF
  obtain ⟨N4, e4⟩ := f19_ev k d hd hc
  refine ⟨N1 + N2 + N3 + N4, fun m hm R K call => ?_⟩
  simp only [f16.step]
  refine (e1 m (by omega) R _).trans ?_
  simp (disch := omega) only [SS]
  refine (e2 m (by omega) R _).trans ?_
  simp (disch := omega) only [SS]
  refine (e3 m (by omega) R _).trans ?_
  simp (disch := omega) only [SS]
  refine (e4 m (by omega) R _).trans ?_
  simp (disch := omega) only [SS]
theorem short_ok (fs : List FileT) : (short fs).length ≤ 10 ∧ ∀ f ∈ short fs, f.2.length ≤ 400 := by
  constructor
  · simp [short]; omega
  · intro f hf
    simp only [short, List.mem_map] at hf
    obtain ⟨g, _, rfl⟩ := hf
    simp; omega
theorem f3_ev (k : Int) (d0 : List UInt8) (fs : List FileT) : Ev (fun R m (K : Bool → Option R) => f3 m k d0 fs K) (fun R K => K true) := Lp.ev (step := fun R m (K : Bool → Option R) => f3.step m K) <| by
  obtain ⟨N4, e4⟩ := f4_ev d0 1000
  obtain ⟨d, hdd⟩ : ∃ d, d = d0.take 1000 := ⟨_, rfl⟩
  rw [← hdd] at e4
  have hd : d.length ≤ 1000 := by rw [hdd, List.length_take]; omega
  obtain ⟨N6, e6⟩ := f6_ev k d
  obtain ⟨N7, e7⟩ := f7_ev
  by_cases hc : check k d = 0
  · have hk : 1 ≤ k ∧ k ≤ 4 := by
      rw [← name_ne]
      intro hn
      rw [check, if_pos hn] at hc
      exact absurd hc (by decide)
    have htl := text_length k d hd
    obtain ⟨r, hF, N5, e5⟩ := f5_ev k d hd hc
    have hrl := hF.len (by omega)
    have hfl := frame_length r (text k d)
    obtain ⟨N8, e8⟩ := f8_ev k d hd
    obtain ⟨N9, e9⟩ := f9_ev (text k d) r hF (by omega)
    obtain ⟨N10, e10⟩ := f10_ev (sha (text k d)) (sha_length _)
    obtain ⟨N11, e11⟩ := f11_ev k d (by omega)
    obtain ⟨N13, e13⟩ := f13_ev (text k d) (by omega)
    have hsl := stored_length (text k d)
    obtain ⟨N12, e12⟩ := f12_ev (stored (text k d)) (text k d) (by omega) (by omega)
    obtain ⟨N15, e15⟩ := f15_ev fs
    obtain ⟨N17, e17⟩ := f17_ev k d (stored (text k d)) hk hd (.inl rfl)
    obtain ⟨hs1, hs2⟩ := short_ok fs
    have hflen : (short fs ++ [(path (oid k d), frame r (text k d))]).length = (short fs).length + 1 := by simp
    have h14 := f14_ev (short fs ++ [(path (oid k d), frame r (text k d))]) (by omega) (by omega) (by
      intro f hf
      rcases List.mem_append.1 hf with h | h
      · have := hs2 f h; omega
      · simp only [List.mem_singleton] at h; subst h; show (frame r (text k d)).length ≤ 10000; omega)
    have hfs := frame_length (stored (text k d)) (text k d)
    have hrs : r.length ≤ (stored (text k d)).length := by
      rcases hF with rfl | ⟨B, pad, _, _, _, _, h⟩
      · exact Nat.le_refl _
      · exact h
    have hle : ¬ ((frame (stored (text k d)) (text k d)).length : Int) < (frame r (text k d)).length := by omega
    have common : ∀ (m : Nat) (R : Type) (K : Bool → Option R) (call : f3.St → Option R), N4 + N5 + N6 + N7 + N8 + N9 + N10 + N11 + N12 + N13 + N15 + N17 ≤ m → f3.step m K call (.s0 k d0 fs) =
        f14 m (short fs ++ [(path (oid k d), frame r (text k d))]) (fun r29 r30 => bif (!(decide (r30 = 0))) then K true else
          f16 m r29 (oid k d) (fun r32 r33 r34 => f11 m k d (fun r35 => f13 m r35 (fun r36 => f11 m k d (fun r37 => f12 m r36 r37 (fun r38 => f17 m r38 (fun r39 r40 r41 =>
            bif (decide (r34 = 0)) then (bif ((decide (r32 = k)) && ((decide (r33 = d)) && true)) then (bif (decide (r41 = 0)) then K ((decide (r39 = k)) && ((decide (r40 = d)) && true)) else K false) else K false) else K false))))))) := by
      intro m R K call hm
      simp only [f3.step]
      refine (e4 m (by omega) R _).trans ?_
      refine (e5 m (by omega) R _).trans ?_
      refine (e6 m (by omega) R _).trans ?_
      dsimp only
      rw [hc]
      simp (disch := omega) only [SS]
      refine (e8 m (by omega) R _).trans ?_
      refine (e9 m (by omega) R _).trans ?_
      refine (e7 m (by omega) R _).trans ?_
      simp (disch := omega) only [SS]
      refine (e10 m (by omega) R _).trans ?_
      dsimp only
      rw [dt (show path (oid k d) = path (hexs (sha (text k d))) from rfl)]
      simp (disch := omega) only [SS]
      refine (e11 m (by omega) R _).trans ?_
      simp (disch := omega) only [SS]
      refine (e11 m (by omega) R _).trans ?_
      refine (e13 m (by omega) R _).trans ?_
      refine (e11 m (by omega) R _).trans ?_
      refine (e12 m (by omega) R _).trans ?_
      dsimp only
      rw [df hle]
      simp (disch := omega) only [SS]
      refine (e15 m (by omega) R _).trans ?_
      simp (disch := omega) only [SS]
    rcases h14 with ⟨N14, e14⟩ | ⟨l, tot, p1, p2, p3, N14, e14⟩
    · refine .ret ⟨N4 + N5 + N6 + N7 + N8 + N9 + N10 + N11 + N12 + N13 + N15 + N17 + N14, fun m hm R K call => ?_⟩
      refine (common m R K call (by omega)).trans ?_
      refine (e14 m (by omega) R _).trans ?_
      simp (disch := omega) only [SS]
    · have hll : l.length = (short fs).length + 1 := by rw [← p1.length_eq]; exact hflen
      obtain ⟨N16, e16⟩ := f16_ev k d r hk hd hc hF l tot (by omega) p2 p3 (p1.subset (by simp))
      refine .ret ⟨N4 + N5 + N6 + N7 + N8 + N9 + N10 + N11 + N12 + N13 + N15 + N17 + N14 + N16, fun m hm R K call => ?_⟩
      refine (common m R K call (by omega)).trans ?_
      refine (e14 m (by omega) R _).trans ?_
      simp (disch := omega) only [SS]
      refine (e16 m (by omega) R _).trans ?_
      refine (e11 m (by omega) R _).trans ?_
      refine (e13 m (by omega) R _).trans ?_
      refine (e11 m (by omega) R _).trans ?_
      refine (e12 m (by omega) R _).trans ?_
      refine (e17 m (by omega) R _).trans ?_
      simp
  · obtain ⟨N5, e5⟩ := f5_bad k d hd hc
    refine .ret ⟨N4 + N5 + N6 + N7, fun m hm R K call => ?_⟩
    simp only [f3.step]
    refine (e4 m (by omega) R _).trans ?_
    refine (e5 m (by omega) R _).trans ?_
    refine (e6 m (by omega) R _).trans ?_
    dsimp only
    rw [df hc]
    simp only [Bool.not_false, cond_true]
    refine (e7 m (by omega) R _).trans ?_
    simp only [cond_true]
    refine (e6 m (by omega) R _).trans ?_
    simp

theorem pure_law : PureLaw := fun k d fs _ _ => by
  obtain ⟨N, e⟩ := f3_ev k d fs
  exact ⟨N, fun K => e N (Nat.le_refl _) Unit K⟩
end Go.Proofs.YtidncoebfnabcaaGreatDoor
