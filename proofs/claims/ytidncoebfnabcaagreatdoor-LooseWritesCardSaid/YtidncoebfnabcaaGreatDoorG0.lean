/- The shallow form of the functions that the law reaches, each with its proof (printed by a program). -/
import Derived.Test.YtidncoebfnabcaaGreatDoorB
import Derived.KernelRfl
set_option linter.unusedVariables false
set_option maxRecDepth 100000
namespace Go.AM
open Go.Proofs
variable {R : Type} {G : Nat} {H0 : Array Obj}
noncomputable def f4.C : Cuts := ⟨(fun q => match q with
  | _ => none), (fun _ => none)⟩
inductive f4.St where
  | s0 (a0 : List UInt8) (a1 : Int)
noncomputable def f4.todo : f4.St → List Item
  | .s0 _ _ => [.code (bodyOf Tryz.f4)]
noncomputable def f4.fr : f4.St → List SV
  | .s0 a0 a1 => .pv .str a0 :: .pv (.int .i64) a1 :: ud 11 []
noncomputable def f4.hp : f4.St → List Blk
  | .s0 a0 a1 => []
noncomputable def f4.step (m : Nat) (K0 : List UInt8 → Option R) (call : f4.St → Option R) : f4.St → Option R
  | .s0 a0 a1 => 
  bif (decide (a1 < (((List.length a0) : Nat) : Int))) then
   bif (leB a1 (List.length a0)) then
    K0 (List.take (Int.toNat a1) a0)
   else
    none
  else
   K0 a0
noncomputable def f4 (m : Nat) (a0 : List UInt8) (a1 : Int) (K0 : List UInt8 → Option R) : Option R := iter (f4.step m K0) m (.s0 a0 a1)
noncomputable def f4.pc (m : Nat) (other : Con R) : Con R := pcon [.p (.dat .str), .p (.dat (.int .i64))] [] (fun x y K => f4 m (x.1) (x.2.1) (fun r0 => K (.pv .str r0) [])) other
noncomputable def f4.ct (m : Nat) (f : Nat) : Option (List Mode × Con R) := match f with
  | _ => none
theorem f4.seg (m : Nat) : Seg (f4.ct (R := R) m) f4.C 0 Tryz.f4 (some [some .str]) f4.todo f4.fr f4.hp (fun K => f4.step m (fun r0 => K (.pv .str r0) [])) := fun K call s => by cases s <;> kernel_rfl
theorem f4.ctok (hl : Laid G H0) (m : Nat) : CtOk G H0 (f4.ct (R := R) m) := fun f ms F h => nomatch h
theorem f4.ok (hl : Laid G H0) (m : Nat) {other : Con R} (ho : FOk Tryz.prog G H0 4 other) : FOk Tryz.prog G H0 4 (f4.pc m other) :=
  seg_ok (c := bodyOf Tryz.f4) (by kernel_rfl) (by kernel_rfl) ho (f4.ctok hl m) m (f4.seg m) (fun x y => .s0 (x.1) (x.2.1)) (fun x y K => by kernel_rfl) fun _ _ _ => rfl

noncomputable def f40.C : Cuts := ⟨(fun q => match q with
  | _ => none), (fun _ => none)⟩
inductive f40.St where
  | s0 (a0 : Int)
noncomputable def f40.todo : f40.St → List Item
  | .s0 _ => [.code (bodyOf Tryz.f40)]
noncomputable def f40.fr : f40.St → List SV
  | .s0 a0 => .pv (.int .i64) a0 :: ud 11 []
noncomputable def f40.hp : f40.St → List Blk
  | .s0 a0 => []
noncomputable def f40.step (m : Nat) (K0 : List UInt8 → Option R) (call : f40.St → Option R) : f40.St → Option R
  | .s0 a0 => 
  bif (decide (a0 = (1 : Int))) then
   K0 ([99, 111, 109, 109, 105, 116] : List UInt8)
  else
   bif (decide (a0 = (2 : Int))) then
    K0 ([116, 114, 101, 101] : List UInt8)
   else
    bif (decide (a0 = (3 : Int))) then
     K0 ([98, 108, 111, 98] : List UInt8)
    else
     bif (decide (a0 = (4 : Int))) then
      K0 ([116, 97, 103] : List UInt8)
     else
      K0 ([] : List UInt8)
noncomputable def f40 (m : Nat) (a0 : Int) (K0 : List UInt8 → Option R) : Option R := iter (f40.step m K0) m (.s0 a0)
noncomputable def f40.pc (m : Nat) (other : Con R) : Con R := pcon [.p (.dat (.int .i64))] [] (fun x y K => f40 m (x.1) (fun r0 => K (.pv .str r0) [])) other
noncomputable def f40.ct (m : Nat) (f : Nat) : Option (List Mode × Con R) := match f with
  | _ => none
theorem f40.seg (m : Nat) : Seg (f40.ct (R := R) m) f40.C 0 Tryz.f40 (some [some .str]) f40.todo f40.fr f40.hp (fun K => f40.step m (fun r0 => K (.pv .str r0) [])) := fun K call s => by cases s <;> kernel_rfl
theorem f40.ctok (hl : Laid G H0) (m : Nat) : CtOk G H0 (f40.ct (R := R) m) := fun f ms F h => nomatch h
theorem f40.ok (hl : Laid G H0) (m : Nat) {other : Con R} (ho : FOk Tryz.prog G H0 40 other) : FOk Tryz.prog G H0 40 (f40.pc m other) :=
  seg_ok (c := bodyOf Tryz.f40) (by kernel_rfl) (by kernel_rfl) ho (f40.ctok hl m) m (f40.seg m) (fun x y => .s0 (x.1)) (fun x y K => by kernel_rfl) fun _ _ _ => rfl

noncomputable def f39.C : Cuts := ⟨(fun q => match q with
  | _ => none), (fun _ => none)⟩
inductive f39.St where
  | s0 (a0 : Int) (a1 : List UInt8)
noncomputable def f39.todo : f39.St → List Item
  | .s0 _ _ => [.code (bodyOf Tryz.f39)]
noncomputable def f39.fr : f39.St → List SV
  | .s0 a0 a1 => .agg [.pv (.int .i64) a0, .pv .str a1] :: ud 10 []
noncomputable def f39.hp : f39.St → List Blk
  | .s0 a0 a1 => []
noncomputable def f39.step (m : Nat) (K0 : Int → Option R) (call : f39.St → Option R) : f39.St → Option R
  | .s0 a0 a1 => 
  f40 m a0 (fun (r1 : List UInt8) =>
   bif (decide (r1 = ([] : List UInt8))) then
    K0 (10 : Int)
   else
    bif (decide ((65000 : Int) < (((List.length a1) : Nat) : Int))) then
     K0 (2 : Int)
    else
     K0 (0 : Int))
noncomputable def f39 (m : Nat) (a0 : Int) (a1 : List UInt8) (K0 : Int → Option R) : Option R := iter (f39.step m K0) m (.s0 a0 a1)
noncomputable def f39.pc (m : Nat) (other : Con R) : Con R := pcon [.p (.dat (.prod (.int .i64) .str))] [] (fun x y K => f39 m (x.1.1) (x.1.2) (fun r0 => K (.pv (.int .i64) r0) [])) other
noncomputable def f39.ct (m : Nat) (f : Nat) : Option (List Mode × Con R) := match f with
  | 40 => some ([.bor], (f40.pc m ncon))
  | _ => none
theorem f39.seg (m : Nat) : Seg (f39.ct (R := R) m) f39.C 0 Tryz.f39 (some [some (.int .i64)]) f39.todo f39.fr f39.hp (fun K => f39.step m (fun r0 => K (.pv (.int .i64) r0) [])) := fun K call s => by cases s <;> kernel_rfl
theorem pl40 : Plain Tryz.prog 40 := ⟨Tryz.f40, by kernel_rfl, by kernel_rfl, by kernel_rfl⟩
theorem f39.ctok (hl : Laid G H0) (m : Nat) : CtOk G H0 (f39.ct (R := R) m) := by
  intro f ms F h
  unfold f39.ct at h
  split at h
  · exact ctk h pl40 (f40.ok hl m (ncon_ok _))
  · cases h
theorem f39.ok (hl : Laid G H0) (m : Nat) {other : Con R} (ho : FOk Tryz.prog G H0 39 other) : FOk Tryz.prog G H0 39 (f39.pc m other) :=
  seg_ok (c := bodyOf Tryz.f39) (by kernel_rfl) (by kernel_rfl) ho (f39.ctok hl m) m (f39.seg m) (fun x y => .s0 (x.1.1) (x.1.2)) (fun x y K => by kernel_rfl) fun _ _ _ => rfl

noncomputable def f18.C : Cuts := ⟨(fun q => match q with
  | _ => none), (fun _ => none)⟩
inductive f18.St where
  | s0 (a0 : Int) (a1 : List UInt8)
noncomputable def f18.todo : f18.St → List Item
  | .s0 _ _ => [.code (bodyOf Tryz.f18)]
noncomputable def f18.fr : f18.St → List SV
  | .s0 a0 a1 => .agg [.pv (.int .i64) a0, .pv .str a1] :: ud 22 []
noncomputable def f18.hp : f18.St → List Blk
  | .s0 a0 a1 => []
noncomputable def f18.step (m : Nat) (K0 : List UInt8 → Int → Option R) (call : f18.St → Option R) : f18.St → Option R
  | .s0 a0 a1 => 
  f39 m a0 a1 (fun (r1 : Int) =>
   bif (!(decide (r1 = (0 : Int)))) then
    K0 ([] : List UInt8) r1
   else
    f40 m a0 (fun (r3 : List UInt8) =>
     bif (decide (((List.length r3) + 1) ≤ LIM)) then
      let x4 : List UInt8 := r3 ++ ([32] : List UInt8)
      x41 (((List.length a1) : Nat) : Int) (fun (r5 : List UInt8) =>
       bif (decide (((List.length x4) + (List.length r5)) ≤ LIM)) then
        let x6 : List UInt8 := x4 ++ r5
        bif (decide (((List.length x6) + 1) ≤ LIM)) then
         let x7 : List UInt8 := x6 ++ ([0] : List UInt8)
         bif (decide (((List.length x7) + (List.length a1)) ≤ LIM)) then
          K0 (x7 ++ a1) (0 : Int)
         else
          none
        else
         none
       else
        none)
     else
      none))
noncomputable def f18 (m : Nat) (a0 : Int) (a1 : List UInt8) (K0 : List UInt8 → Int → Option R) : Option R := iter (f18.step m K0) m (.s0 a0 a1)
noncomputable def f18.pc (m : Nat) (other : Con R) : Con R := pcon [.p (.dat (.prod (.int .i64) .str))] [] (fun x y K => f18 m (x.1.1) (x.1.2) (fun r0 r1 => K (.tup [.pv .str r0, .pv (.int .i64) r1]) [])) other
noncomputable def f18.ct (m : Nat) (f : Nat) : Option (List Mode × Con R) := match f with
  | 39 => some ([.bor], (f39.pc m ncon))
  | 40 => some ([.bor], (f40.pc m ncon))
  | 41 => some ([.bor], (x41.pc ncon))
  | _ => none
theorem f18.seg (m : Nat) : Seg (f18.ct (R := R) m) f18.C 0 Tryz.f18 (some [some .str, some (.int .i64)]) f18.todo f18.fr f18.hp (fun K => f18.step m (fun r0 r1 => K (.tup [.pv .str r0, .pv (.int .i64) r1]) [])) := fun K call s => by cases s <;> kernel_rfl
theorem pl39 : Plain Tryz.prog 39 := ⟨Tryz.f39, by kernel_rfl, by kernel_rfl, by kernel_rfl⟩
theorem pl41 : Plain Tryz.prog 41 := ⟨Tryz.f41, by kernel_rfl, by kernel_rfl, by kernel_rfl⟩
theorem f18.ctok (hl : Laid G H0) (m : Nat) : CtOk G H0 (f18.ct (R := R) m) := by
  intro f ms F h
  unfold f18.ct at h
  split at h
  · exact ctk h pl39 (f39.ok hl m (ncon_ok _))
  · exact ctk h pl40 (f40.ok hl m (ncon_ok _))
  · exact ctk h pl41 (x41.ok hl (ncon_ok _))
  · cases h
theorem f18.ok (hl : Laid G H0) (m : Nat) {other : Con R} (ho : FOk Tryz.prog G H0 18 other) : FOk Tryz.prog G H0 18 (f18.pc m other) :=
  seg_ok (c := bodyOf Tryz.f18) (by kernel_rfl) (by kernel_rfl) ho (f18.ctok hl m) m (f18.seg m) (fun x y => .s0 (x.1.1) (x.1.2)) (fun x y K => by kernel_rfl) fun _ _ _ => rfl

noncomputable def f119.C : Cuts := ⟨(fun q => match q with
  | _ => none), (fun _ => none)⟩
inductive f119.St where
  | s0
noncomputable def f119.todo : f119.St → List Item
  | .s0 => [.code (bodyOf Tryz.f119)]
noncomputable def f119.fr : f119.St → List SV
  | .s0 => .undef :: .undef :: []
noncomputable def f119.hp : f119.St → List Blk
  | .s0 => []
noncomputable def f119.step (m : Nat) (K0 : List Int → Option R) (call : f119.St → Option R) : f119.St → Option R
  | .s0 => 
  let x1 : List Int := [(1732584193 : Int), (4023233417 : Int), (2562383102 : Int), (271733878 : Int), (3285377520 : Int)]
  K0 x1
noncomputable def f119 (m : Nat) (K0 : List Int → Option R) : Option R := iter (f119.step m K0) m (.s0)
noncomputable def f119.pc (m : Nat) (other : Con R) : Con R := pcon [] [] (fun x y K => f119 m (fun r0 => K (.pv (.sl (.int .u32)) r0) [])) other
noncomputable def f119.ct (m : Nat) (f : Nat) : Option (List Mode × Con R) := match f with
  | _ => none
theorem f119.seg (m : Nat) : Seg (f119.ct (R := R) m) f119.C 0 Tryz.f119 (some [some (.sl (.int .u32))]) f119.todo f119.fr f119.hp (fun K => f119.step m (fun r0 => K (.pv (.sl (.int .u32)) r0) [])) := fun K call s => by cases s <;> kernel_rfl
theorem f119.ctok (hl : Laid G H0) (m : Nat) : CtOk G H0 (f119.ct (R := R) m) := fun f ms F h => nomatch h
theorem f119.ok (hl : Laid G H0) (m : Nat) {other : Con R} (ho : FOk Tryz.prog G H0 119 other) : FOk Tryz.prog G H0 119 (f119.pc m other) :=
  seg_ok (c := bodyOf Tryz.f119) (by kernel_rfl) (by kernel_rfl) ho (f119.ctok hl m) m (f119.seg m) (fun x y => .s0) (fun x y K => by kernel_rfl) fun _ _ _ => rfl

noncomputable def f150.C : Cuts := ⟨(fun q => match q with
  | _ => none), (fun _ => none)⟩
inductive f150.St where
  | s0 (a0 : List UInt8)
noncomputable def f150.todo : f150.St → List Item
  | .s0 _ => [.code (bodyOf Tryz.f150)]
noncomputable def f150.fr : f150.St → List SV
  | .s0 a0 => .pv .str a0 :: ud 20 []
noncomputable def f150.hp : f150.St → List Blk
  | .s0 a0 => []
noncomputable def f150.step (m : Nat) (K0 : Int → Option R) (call : f150.St → Option R) : f150.St → Option R
  | .s0 a0 => 
  bif (inB (0 : Int) (List.length a0)) then
   bif (inB (1 : Int) (List.length a0)) then
    bif (inB (2 : Int) (List.length a0)) then
     bif (inB (3 : Int) (List.length a0)) then
      K0 (ibits .or .u32 (ibits .or .u32 (ibits .or .u32 (IntKind.wrap .u32 ((IntKind.wrap .u32 ((UInt8.toNat (List.getD a0 0 0) : Nat) : Int)) * (16777216 : Int))) (IntKind.wrap .u32 ((IntKind.wrap .u32 ((UInt8.toNat (List.getD a0 1 0) : Nat) : Int)) * (65536 : Int)))) (IntKind.wrap .u32 ((IntKind.wrap .u32 ((UInt8.toNat (List.getD a0 2 0) : Nat) : Int)) * (256 : Int)))) (IntKind.wrap .u32 ((UInt8.toNat (List.getD a0 3 0) : Nat) : Int)))
     else
      none
    else
     none
   else
    none
  else
   none
noncomputable def f150 (m : Nat) (a0 : List UInt8) (K0 : Int → Option R) : Option R := iter (f150.step m K0) m (.s0 a0)
noncomputable def f150.pc (m : Nat) (other : Con R) : Con R := pcon [.p (.dat .str)] [] (fun x y K => f150 m (x.1) (fun r0 => K (.pv (.int .u32) r0) [])) other
noncomputable def f150.ct (m : Nat) (f : Nat) : Option (List Mode × Con R) := match f with
  | _ => none
theorem f150.seg (m : Nat) : Seg (f150.ct (R := R) m) f150.C 0 Tryz.f150 (some [some (.int .u32)]) f150.todo f150.fr f150.hp (fun K => f150.step m (fun r0 => K (.pv (.int .u32) r0) [])) := fun K call s => by cases s <;> kernel_rfl
theorem f150.ctok (hl : Laid G H0) (m : Nat) : CtOk G H0 (f150.ct (R := R) m) := fun f ms F h => nomatch h
theorem f150.ok (hl : Laid G H0) (m : Nat) {other : Con R} (ho : FOk Tryz.prog G H0 150 other) : FOk Tryz.prog G H0 150 (f150.pc m other) :=
  seg_ok (c := bodyOf Tryz.f150) (by kernel_rfl) (by kernel_rfl) ho (f150.ctok hl m) m (f150.seg m) (fun x y => .s0 (x.1)) (fun x y K => by kernel_rfl) fun _ _ _ => rfl

noncomputable def f151.C : Cuts := ⟨(fun q => match q with
  | _ => none), (fun _ => none)⟩
inductive f151.St where
  | s0 (a0 : Int) (a1 : Int)
noncomputable def f151.todo : f151.St → List Item
  | .s0 _ _ => [.code (bodyOf Tryz.f151)]
noncomputable def f151.fr : f151.St → List SV
  | .s0 a0 a1 => .pv (.int .u32) a0 :: .pv (.int .i64) a1 :: ud 15 []
noncomputable def f151.hp : f151.St → List Blk
  | .s0 a0 a1 => []
noncomputable def f151.step (m : Nat) (K0 : Int → Option R) (call : f151.St → Option R) : f151.St → Option R
  | .s0 a0 a1 => 
  let x2 : Int := ibits .and .u64 (IntKind.wrap .u64 a1) (31 : Int)
  bif (decide ((0 : Int) ≤ x2)) then
   let x4 : Int := IntKind.wrap .u64 ((32 : Int) - x2)
   bif (decide ((0 : Int) ≤ x4)) then
    K0 (ibits .or .u32 (IntKind.wrap .u32 (a0 * ((2 : Int) ^ (min (Int.toNat x2) 32)))) (Int.fdiv a0 ((2 : Int) ^ (min (Int.toNat x4) 32))))
   else
    none
  else
   none
noncomputable def f151 (m : Nat) (a0 : Int) (a1 : Int) (K0 : Int → Option R) : Option R := iter (f151.step m K0) m (.s0 a0 a1)
noncomputable def f151.pc (m : Nat) (other : Con R) : Con R := pcon [.p (.dat (.int .u32)), .p (.dat (.int .i64))] [] (fun x y K => f151 m (x.1) (x.2.1) (fun r0 => K (.pv (.int .u32) r0) [])) other
noncomputable def f151.ct (m : Nat) (f : Nat) : Option (List Mode × Con R) := match f with
  | _ => none
theorem f151.seg (m : Nat) : Seg (f151.ct (R := R) m) f151.C 0 Tryz.f151 (some [some (.int .u32)]) f151.todo f151.fr f151.hp (fun K => f151.step m (fun r0 => K (.pv (.int .u32) r0) [])) := fun K call s => by cases s <;> kernel_rfl
theorem f151.ctok (hl : Laid G H0) (m : Nat) : CtOk G H0 (f151.ct (R := R) m) := fun f ms F h => nomatch h
theorem f151.ok (hl : Laid G H0) (m : Nat) {other : Con R} (ho : FOk Tryz.prog G H0 151 other) : FOk Tryz.prog G H0 151 (f151.pc m other) :=
  seg_ok (c := bodyOf Tryz.f151) (by kernel_rfl) (by kernel_rfl) ho (f151.ctok hl m) m (f151.seg m) (fun x y => .s0 (x.1) (x.2.1)) (fun x y K => by kernel_rfl) fun _ _ _ => rfl

noncomputable def f120.C : Cuts := ⟨(fun q => match q with
  | 2 => some { live := [0, 1, 4, 15], adopt := [] }
  | 7 => some { live := [0, 1, 4, 15], adopt := [] }
  | 10 => some { live := [0, 6, 7, 8, 9, 10, 65, 66], adopt := [] }
  | 20 => some { live := [0, 6, 7, 8, 9, 10, 12, 13, 14, 65, 66], adopt := [] }
  | _ => none), (fun _ => none)⟩
inductive f120.St where
  | s0 (a0 : List UInt8) (a1 : List Int)
  | s1 (a0 : List UInt8) (a1 : Int) (a2 : List Int) (a3 : List Int)
  | s2 (a0 : List UInt8) (a1 : Int) (a2 : List Int) (a3 : List Int)
  | s3 (a0 : Int) (a1 : Int) (a2 : Int) (a3 : Int) (a4 : Int) (a5 : List Int) (a6 : Int) (a7 : List Int)
  | s4 (a0 : Int) (a1 : Int) (a2 : Int) (a3 : Int) (a4 : Int) (a5 : Int) (a6 : Int) (a7 : Int) (a8 : List Int) (a9 : Int) (a10 : List Int)
noncomputable def f120.todo : f120.St → List Item
  | .s0 _ _ => [.code (bodyOf Tryz.f120)]
  | .s1 _ _ _ _ => atBef Tryz.f120 2
  | .s2 _ _ _ _ => atBef Tryz.f120 7
  | .s3 _ _ _ _ _ _ _ _ => atBef Tryz.f120 10
  | .s4 _ _ _ _ _ _ _ _ _ _ _ => atBef Tryz.f120 20
noncomputable def f120.fr : f120.St → List SV
  | .s0 a0 a1 => .sl 0 none :: .pv .str a0 :: ud 146 []
  | .s1 a0 a1 a2 a3 => .sl 0 none :: .pv .str a0 :: .dead :: .dead :: .ptr 1 0 :: dd 10 (.pv (.int .i64) a1 :: dd 132 [])
  | .s2 a0 a1 a2 a3 => .sl 0 none :: .pv .str a0 :: .dead :: .dead :: .ptr 1 0 :: dd 10 (.pv (.int .i64) a1 :: dd 132 [])
  | .s3 a0 a1 a2 a3 a4 a5 a6 a7 => .sl 0 none :: dd 5 (.pv (.int .u32) a0 :: .pv (.int .u32) a1 :: .pv (.int .u32) a2 :: .pv (.int .u32) a3 :: .pv (.int .u32) a4 :: dd 54 (.agg [.pv (.arr 80 (.int .u32)) a5] :: .pv (.int .i64) a6 :: dd 81 []))
  | .s4 a0 a1 a2 a3 a4 a5 a6 a7 a8 a9 a10 => .sl 0 none :: dd 5 (.pv (.int .u32) a0 :: .pv (.int .u32) a1 :: .pv (.int .u32) a2 :: .pv (.int .u32) a3 :: .pv (.int .u32) a4 :: .dead :: .pv (.int .u32) a5 :: .pv (.int .u32) a6 :: .pv (.int .u32) a7 :: dd 50 (.agg [.pv (.arr 80 (.int .u32)) a8] :: .pv (.int .i64) a9 :: dd 81 []))
noncomputable def f120.hp : f120.St → List Blk
  | .s0 a0 a1 => [.row (.int .u32) a1 53 true]
  | .s1 a0 a1 a2 a3 => [.row (.int .u32) a2 53 true, .box [.pv (.arr 80 (.int .u32)) a3] 197]
  | .s2 a0 a1 a2 a3 => [.row (.int .u32) a2 53 true, .box [.pv (.arr 80 (.int .u32)) a3] 197]
  | .s3 a0 a1 a2 a3 a4 a5 a6 a7 => [.row (.int .u32) a7 53 true]
  | .s4 a0 a1 a2 a3 a4 a5 a6 a7 a8 a9 a10 => [.row (.int .u32) a10 53 true]
noncomputable def f120.step (m : Nat) (K0 : List Int → Option R) (call : f120.St → Option R) : f120.St → Option R
  | .s0 a0 a1 => 
  call (.s1 a0 (0 : Int) a1 (List.replicate 80 (0 : Int) : List Int))
  | .s1 a0 a1 a2 a3 => 
  bif (decide (a1 < (80 : Int))) then
   bif (decide (a1 < (16 : Int))) then
    let x1 : Int := IntKind.wrap .i64 ((4 : Int) * a1)
    bif (leB x1 (List.length a0)) then
     f150 m (List.drop (Int.toNat x1) a0) (fun (r3 : Int) =>
      bif (inB a1 80) then
       call (.s2 a0 a1 a2 (List.set a3 (Int.toNat a1) r3))
      else
       none)
    else
     none
   else
    let x6 : Int := IntKind.wrap .i64 (a1 - (3 : Int))
    bif (inB x6 80) then
     let x9 : Int := IntKind.wrap .i64 (a1 - (8 : Int))
     bif (inB x9 80) then
      let x13 : Int := IntKind.wrap .i64 (a1 - (14 : Int))
      bif (inB x13 80) then
       let x17 : Int := IntKind.wrap .i64 (a1 - (16 : Int))
       bif (inB x17 80) then
        f151 m (ibits .xor .u32 (ibits .xor .u32 (ibits .xor .u32 (List.getD a3 (Int.toNat x6) (0 : Int)) (List.getD a3 (Int.toNat x9) (0 : Int))) (List.getD a3 (Int.toNat x13) (0 : Int))) (List.getD a3 (Int.toNat x17) (0 : Int))) (1 : Int) (fun (r21 : Int) =>
         bif (inB a1 80) then
          call (.s2 a0 a1 a2 (List.set a3 (Int.toNat a1) r21))
         else
          none)
       else
        none
      else
       none
     else
      none
    else
     none
  else
   bif (inB (0 : Int) (List.length a2)) then
    bif (inB (1 : Int) (List.length a2)) then
     bif (inB (2 : Int) (List.length a2)) then
      bif (inB (3 : Int) (List.length a2)) then
       bif (inB (4 : Int) (List.length a2)) then
        call (.s3 (List.getD a2 0 (0 : Int)) (List.getD a2 1 (0 : Int)) (List.getD a2 2 (0 : Int)) (List.getD a2 3 (0 : Int)) (List.getD a2 4 (0 : Int)) a3 (0 : Int) a2)
       else
        none
      else
       none
     else
      none
    else
     none
   else
    none
  | .s2 a0 a1 a2 a3 => 
  call (.s1 a0 (IntKind.wrap .i64 (a1 + (1 : Int))) a2 a3)
  | .s3 a0 a1 a2 a3 a4 a5 a6 a7 => 
  bif (decide (a6 < (80 : Int))) then
   bif (inB a6 80) then
    let x1 : Int := List.getD a5 (Int.toNat a6) (0 : Int)
    let x3 : Int := ibits .xor .u32 (ibits .xor .u32 a1 a2) a3
    let x4 : Int := IntKind.wrap .i64 (Int.tdiv a6 (20 : Int))
    bif (decide (x4 = (0 : Int))) then
     call (.s4 a0 a1 a2 a3 a4 x1 (ibits .or .u32 (ibits .and .u32 a1 a2) (ibits .and .u32 (ibits .xor .u32 (4294967295 : Int) a1) a3)) (1518500249 : Int) a5 a6 a7)
    else
     bif (decide (x4 = (1 : Int))) then
      call (.s4 a0 a1 a2 a3 a4 x1 x3 (1859775393 : Int) a5 a6 a7)
     else
      bif (decide (x4 = (2 : Int))) then
       call (.s4 a0 a1 a2 a3 a4 x1 (ibits .or .u32 (ibits .or .u32 (ibits .and .u32 a1 a2) (ibits .and .u32 a1 a3)) (ibits .and .u32 a2 a3)) (2400959708 : Int) a5 a6 a7)
      else
       call (.s4 a0 a1 a2 a3 a4 x1 x3 (3395469782 : Int) a5 a6 a7)
   else
    none
  else
   bif (inB (0 : Int) (List.length a7)) then
    bif (inB (0 : Int) (List.length a7)) then
     let x16 : List Int := List.set a7 0 (IntKind.wrap .u32 ((List.getD a7 0 (0 : Int)) + a0))
     bif (inB (1 : Int) (List.length x16)) then
      bif (inB (1 : Int) (List.length x16)) then
       let x19 : List Int := List.set x16 1 (IntKind.wrap .u32 ((List.getD x16 1 (0 : Int)) + a1))
       bif (inB (2 : Int) (List.length x19)) then
        bif (inB (2 : Int) (List.length x19)) then
         let x22 : List Int := List.set x19 2 (IntKind.wrap .u32 ((List.getD x19 2 (0 : Int)) + a2))
         bif (inB (3 : Int) (List.length x22)) then
          bif (inB (3 : Int) (List.length x22)) then
           let x25 : List Int := List.set x22 3 (IntKind.wrap .u32 ((List.getD x22 3 (0 : Int)) + a3))
           bif (inB (4 : Int) (List.length x25)) then
            bif (inB (4 : Int) (List.length x25)) then
             K0 (List.set x25 4 (IntKind.wrap .u32 ((List.getD x25 4 (0 : Int)) + a4)))
            else
             none
           else
            none
          else
           none
         else
          none
        else
         none
       else
        none
      else
       none
     else
      none
    else
     none
   else
    none
  | .s4 a0 a1 a2 a3 a4 a5 a6 a7 a8 a9 a10 => 
  f151 m a0 (5 : Int) (fun (r1 : Int) =>
   f151 m a1 (30 : Int) (fun (r6 : Int) =>
    call (.s3 (IntKind.wrap .u32 ((IntKind.wrap .u32 ((IntKind.wrap .u32 ((IntKind.wrap .u32 (r1 + a6)) + a4)) + a7)) + a5)) a0 r6 a2 a3 a8 (IntKind.wrap .i64 (a9 + (1 : Int))) a10)))
noncomputable def f120 (m : Nat) (a0 : List UInt8) (a1 : List Int) (K0 : List Int → Option R) : Option R := iter (f120.step m K0) m (.s0 a0 a1)
noncomputable def f120.pc (m : Nat) (other : Con R) : Con R := pcon [.p (.sl 0), .p (.dat .str)] [.row (.int .u32) 53 true] (fun x y K => f120 m (x.2.1) (y.1) (fun r0 => K (.tup []) [.row (.int .u32) r0 53 true])) other
noncomputable def f120.ct (m : Nat) (f : Nat) : Option (List Mode × Con R) := match f with
  | 150 => some ([.bor], (f150.pc m ncon))
  | 151 => some ([.bor, .bor], (f151.pc m ncon))
  | _ => none
theorem f120.seg (m : Nat) : Seg (f120.ct (R := R) m) f120.C 1 Tryz.f120 (some []) f120.todo f120.fr f120.hp (fun K => f120.step m (fun r0 => K (.tup []) [.row (.int .u32) r0 53 true])) := fun K call s => by cases s <;> kernel_rfl
theorem pl150 : Plain Tryz.prog 150 := ⟨Tryz.f150, by kernel_rfl, by kernel_rfl, by kernel_rfl⟩
theorem pl151 : Plain Tryz.prog 151 := ⟨Tryz.f151, by kernel_rfl, by kernel_rfl, by kernel_rfl⟩
theorem f120.ctok (hl : Laid G H0) (m : Nat) : CtOk G H0 (f120.ct (R := R) m) := by
  intro f ms F h
  unfold f120.ct at h
  split at h
  · exact ctk h pl150 (f150.ok hl m (ncon_ok _))
  · exact ctk h pl151 (f151.ok hl m (ncon_ok _))
  · cases h
theorem f120.ok (hl : Laid G H0) (m : Nat) {other : Con R} (ho : FOk Tryz.prog G H0 120 other) : FOk Tryz.prog G H0 120 (f120.pc m other) :=
  seg_ok (c := bodyOf Tryz.f120) (by kernel_rfl) (by kernel_rfl) ho (f120.ctok hl m) m (f120.seg m) (fun x y => .s0 (x.2.1) (y.1)) (fun x y K => by kernel_rfl) fun _ _ _ => rfl

noncomputable def f118.C : Cuts := ⟨(fun q => match q with
  | 4 => some { live := [0, 1, 3], adopt := [] }
  | _ => none), (fun _ => none)⟩
inductive f118.St where
  | s0 (a0 : List UInt8) (a1 : List Int) (a2 : List UInt8) (a3 : Int)
  | s1 (a0 : List UInt8) (a1 : List UInt8) (a2 : Int) (a3 : List Int)
noncomputable def f118.todo : f118.St → List Item
  | .s0 _ _ _ _ => [.code (bodyOf Tryz.f118)]
  | .s1 _ _ _ _ => atBef Tryz.f118 4
noncomputable def f118.fr : f118.St → List SV
  | .s0 a0 a1 a2 a3 => .ptr 0 0 :: .pv .str a0 :: .pv (.sl (.int .u32)) a1 :: .fn 120 [] :: ud 47 []
  | .s1 a0 a1 a2 a3 => .ptr 0 0 :: .pv .str a0 :: .dead :: .fn 120 [] :: dd 47 []
noncomputable def f118.hp : f118.St → List Blk
  | .s0 a0 a1 a2 a3 => [.box [.nils, .pv .str a2, .pv (.int .u64) a3] 104]
  | .s1 a0 a1 a2 a3 => [.box [.sl 1 none, .pv .str a1, .pv (.int .u64) a2] 104, .row (.int .u32) a3 53 true]
noncomputable def f118.step (m : Nat) (K0 : List UInt8 → Int → List Int → Option R) (call : f118.St → Option R) : f118.St → Option R
  | .s0 a0 a1 a2 a3 => 
  bif ((decide ((List.length a1) ≤ LIM)) && (decide (((List.length a1) * 4) ≤ LIM))) then
   bif (decide (((List.length a2) + (List.length a0)) ≤ LIM)) then
    call (.s1 (a2 ++ a0) a2 (IntKind.wrap .u64 (a3 + (IntKind.wrap .u64 (((List.length a0) : Nat) : Int)))) a1)
   else
    none
  else
   none
  | .s1 a0 a1 a2 a3 => 
  bif (decide ((64 : Int) ≤ (((List.length a0) : Nat) : Int))) then
   bif (leB (64 : Int) (List.length a0)) then
    f120 m (List.take 64 a0) a3 (fun (r2 : List Int) =>
     bif (leB (64 : Int) (List.length a0)) then
      call (.s1 (List.drop 64 a0) a1 a2 r2)
     else
      none)
   else
    none
  else
   K0 a0 a2 a3
noncomputable def f118 (m : Nat) (a0 : List UInt8) (a1 : List Int) (a2 : List UInt8) (a3 : Int) (K0 : List UInt8 → Int → List Int → Option R) : Option R := iter (f118.step m K0) m (.s0 a0 a1 a2 a3)
noncomputable def f118.pc (m : Nat) (other : Con R) : Con R := pcon [.p (.ptr 0 0), .p (.dat .str), .p (.dat (.sl (.int .u32))), .fn 120 []] [.box [.nils, .dat .str, .dat (.int .u64)] 104] (fun x y K => f118 m (x.2.1) (x.2.2.1) (y.1.2.1) (y.1.2.2.1) (fun r0 r1 r2 => K (.tup []) [.box [.sl 1 none, .pv .str r0, .pv (.int .u64) r1] 104, .row (.int .u32) r2 53 true])) other
noncomputable def f118.ct (m : Nat) (f : Nat) : Option (List Mode × Con R) := match f with
  | 120 => some ([.own, .bor], (f120.pc m ncon))
  | _ => none
theorem f118.seg (m : Nat) : Seg (f118.ct (R := R) m) f118.C 1 Tryz.f118 (some []) f118.todo f118.fr f118.hp (fun K => f118.step m (fun r0 r1 r2 => K (.tup []) [.box [.sl 1 none, .pv .str r0, .pv (.int .u64) r1] 104, .row (.int .u32) r2 53 true])) := fun K call s => by cases s <;> kernel_rfl
theorem pl120 : Plain Tryz.prog 120 := ⟨Tryz.f120, by kernel_rfl, by kernel_rfl, by kernel_rfl⟩
theorem f118.ctok (hl : Laid G H0) (m : Nat) : CtOk G H0 (f118.ct (R := R) m) := by
  intro f ms F h
  unfold f118.ct at h
  split at h
  · exact ctk h pl120 (f120.ok hl m (ncon_ok _))
  · cases h
theorem f118.ok (hl : Laid G H0) (m : Nat) {other : Con R} (ho : FOk Tryz.prog G H0 118 other) : FOk Tryz.prog G H0 118 (f118.pc m other) :=
  seg_ok (c := bodyOf Tryz.f118) (by kernel_rfl) (by kernel_rfl) ho (f118.ctok hl m) m (f118.seg m) (fun x y => .s0 (x.2.1) (x.2.2.1) (y.1.2.1) (y.1.2.2.1)) (fun x y K => by kernel_rfl) fun _ _ _ => rfl

noncomputable def f77.C : Cuts := ⟨(fun q => match q with
  | _ => none), (fun _ => none)⟩
inductive f77.St where
  | s0 (a0 : List UInt8) (a1 : List UInt8) (a2 : Int)
noncomputable def f77.todo : f77.St → List Item
  | .s0 _ _ _ => [.code (bodyOf Tryz.f77)]
noncomputable def f77.fr : f77.St → List SV
  | .s0 a0 a1 a2 => .ptr 0 0 :: .pv .str a0 :: ud 8 []
noncomputable def f77.hp : f77.St → List Blk
  | .s0 a0 a1 a2 => [.box [.nils, .pv .str a1, .pv (.int .u64) a2] 104]
noncomputable def f77.step (m : Nat) (K0 : List UInt8 → Int → List Int → Option R) (call : f77.St → Option R) : f77.St → Option R
  | .s0 a0 a1 a2 => 
  f119 m (fun (r1 : List Int) =>
   f118 m a0 r1 a1 a2 (fun (r2 : List UInt8) (r3 : Int) (r4 : List Int) =>
    K0 r2 r3 r4))
noncomputable def f77 (m : Nat) (a0 : List UInt8) (a1 : List UInt8) (a2 : Int) (K0 : List UInt8 → Int → List Int → Option R) : Option R := iter (f77.step m K0) m (.s0 a0 a1 a2)
noncomputable def f77.pc (m : Nat) (other : Con R) : Con R := pcon [.p (.ptr 0 0), .p (.dat .str)] [.box [.nils, .dat .str, .dat (.int .u64)] 104] (fun x y K => f77 m (x.2.1) (y.1.2.1) (y.1.2.2.1) (fun r0 r1 r2 => K (.tup []) [.box [.sl 1 none, .pv .str r0, .pv (.int .u64) r1] 104, .row (.int .u32) r2 53 true])) other
noncomputable def f77.ct (m : Nat) (f : Nat) : Option (List Mode × Con R) := match f with
  | 119 => some ([], (f119.pc m ncon))
  | 118 => some ([.own, .bor, .bor, .own], (f118.pc m ncon))
  | _ => none
theorem f77.seg (m : Nat) : Seg (f77.ct (R := R) m) f77.C 1 Tryz.f77 (some []) f77.todo f77.fr f77.hp (fun K => f77.step m (fun r0 r1 r2 => K (.tup []) [.box [.sl 1 none, .pv .str r0, .pv (.int .u64) r1] 104, .row (.int .u32) r2 53 true])) := fun K call s => by cases s <;> kernel_rfl
theorem pl119 : Plain Tryz.prog 119 := ⟨Tryz.f119, by kernel_rfl, by kernel_rfl, by kernel_rfl⟩
theorem pl118 : Plain Tryz.prog 118 := ⟨Tryz.f118, by kernel_rfl, by kernel_rfl, by kernel_rfl⟩
theorem f77.ctok (hl : Laid G H0) (m : Nat) : CtOk G H0 (f77.ct (R := R) m) := by
  intro f ms F h
  unfold f77.ct at h
  split at h
  · exact ctk h pl119 (f119.ok hl m (ncon_ok _))
  · exact ctk h pl118 (f118.ok hl m (ncon_ok _))
  · cases h
theorem f77.ok (hl : Laid G H0) (m : Nat) {other : Con R} (ho : FOk Tryz.prog G H0 77 other) : FOk Tryz.prog G H0 77 (f77.pc m other) :=
  seg_ok (c := bodyOf Tryz.f77) (by kernel_rfl) (by kernel_rfl) ho (f77.ctok hl m) m (f77.seg m) (fun x y => .s0 (x.2.1) (y.1.2.1) (y.1.2.2.1)) (fun x y K => by kernel_rfl) fun _ _ _ => rfl

noncomputable def f118v2.C : Cuts := ⟨(fun q => match q with
  | 4 => some { live := [0, 1, 3], adopt := [] }
  | _ => none), (fun _ => none)⟩
inductive f118v2.St where
  | s0 (a0 : List UInt8) (a1 : List Int) (a2 : List UInt8) (a3 : Int) (a4 : List Int)
  | s1 (a0 : List UInt8) (a1 : List UInt8) (a2 : Int) (a3 : List Int)
noncomputable def f118v2.todo : f118v2.St → List Item
  | .s0 _ _ _ _ _ => [.code (bodyOf Tryz.f118)]
  | .s1 _ _ _ _ => atBef Tryz.f118 4
noncomputable def f118v2.fr : f118v2.St → List SV
  | .s0 a0 a1 a2 a3 a4 => .ptr 0 0 :: .pv .str a0 :: .pv (.sl (.int .u32)) a1 :: .fn 120 [] :: ud 47 []
  | .s1 a0 a1 a2 a3 => .ptr 0 0 :: .pv .str a0 :: .dead :: .fn 120 [] :: dd 47 []
noncomputable def f118v2.hp : f118v2.St → List Blk
  | .s0 a0 a1 a2 a3 a4 => [.box [.sl 1 none, .pv .str a2, .pv (.int .u64) a3] 102, .row (.int .u32) a4 53 true]
  | .s1 a0 a1 a2 a3 => [.box [.sl 1 none, .pv .str a1, .pv (.int .u64) a2] 102, .row (.int .u32) a3 53 true]
noncomputable def f118v2.step (m : Nat) (K0 : List UInt8 → Int → List Int → Option R) (call : f118v2.St → Option R) : f118v2.St → Option R
  | .s0 a0 a1 a2 a3 a4 => 
  bif (List.isEmpty a4) then
   none
  else
   bif (decide (((List.length a2) + (List.length a0)) ≤ LIM)) then
    call (.s1 (a2 ++ a0) a2 (IntKind.wrap .u64 (a3 + (IntKind.wrap .u64 (((List.length a0) : Nat) : Int)))) a4)
   else
    none
  | .s1 a0 a1 a2 a3 => 
  bif (decide ((64 : Int) ≤ (((List.length a0) : Nat) : Int))) then
   bif (leB (64 : Int) (List.length a0)) then
    f120 m (List.take 64 a0) a3 (fun (r2 : List Int) =>
     bif (leB (64 : Int) (List.length a0)) then
      call (.s1 (List.drop 64 a0) a1 a2 r2)
     else
      none)
   else
    none
  else
   K0 a0 a2 a3
noncomputable def f118v2 (m : Nat) (a0 : List UInt8) (a1 : List Int) (a2 : List UInt8) (a3 : Int) (a4 : List Int) (K0 : List UInt8 → Int → List Int → Option R) : Option R := iter (f118v2.step m K0) m (.s0 a0 a1 a2 a3 a4)
noncomputable def f118v2.pc (m : Nat) (other : Con R) : Con R := pcon [.p (.ptr 0 0), .p (.dat .str), .p (.dat (.sl (.int .u32))), .fn 120 []] [.box [.sl 1, .dat .str, .dat (.int .u64)] 102, .row (.int .u32) 53 true] (fun x y K => f118v2 m (x.2.1) (x.2.2.1) (y.1.2.1) (y.1.2.2.1) (y.2.1) (fun r0 r1 r2 => K (.tup []) [.box [.sl 1 none, .pv .str r0, .pv (.int .u64) r1] 102, .row (.int .u32) r2 53 true])) other
noncomputable def f118v2.ct (m : Nat) (f : Nat) : Option (List Mode × Con R) := match f with
  | 120 => some ([.own, .bor], (f120.pc m ncon))
  | _ => none
theorem f118v2.seg (m : Nat) : Seg (f118v2.ct (R := R) m) f118v2.C 2 Tryz.f118 (some []) f118v2.todo f118v2.fr f118v2.hp (fun K => f118v2.step m (fun r0 r1 r2 => K (.tup []) [.box [.sl 1 none, .pv .str r0, .pv (.int .u64) r1] 102, .row (.int .u32) r2 53 true])) := fun K call s => by cases s <;> kernel_rfl
theorem f118v2.ctok (hl : Laid G H0) (m : Nat) : CtOk G H0 (f118v2.ct (R := R) m) := by
  intro f ms F h
  unfold f118v2.ct at h
  split at h
  · exact ctk h pl120 (f120.ok hl m (ncon_ok _))
  · cases h
theorem f118v2.ok (hl : Laid G H0) (m : Nat) {other : Con R} (ho : FOk Tryz.prog G H0 118 other) : FOk Tryz.prog G H0 118 (f118v2.pc m other) :=
  seg_ok (c := bodyOf Tryz.f118) (by kernel_rfl) (by kernel_rfl) ho (f118v2.ctok hl m) m (f118v2.seg m) (fun x y => .s0 (x.2.1) (x.2.2.1) (y.1.2.1) (y.1.2.2.1) (y.2.1)) (fun x y K => by kernel_rfl) fun _ _ _ => rfl

noncomputable def f121.C : Cuts := ⟨(fun q => match q with
  | 5 => some { live := [0, 1, 2, 7, 8], adopt := [] }
  | 9 => some { live := [0, 1, 2, 7, 8, 9, 10], adopt := [(9, [], (.int .u8), 5)] }
  | 15 => some { live := [11, 69, 70, 71], adopt := [(11, [], (.int .u8), 5)] }
  | _ => none), (fun _ => none)⟩
inductive f121.St where
  | s0 (a0 : List Int) (a1 : List UInt8) (a2 : Int) (a3 : List Int)
  | s1 (a0 : List Int) (a1 : List UInt8) (a2 : List UInt8) (a3 : Int) (a4 : List Int) (a5 : List UInt8) (a6 : Int) (a7 : List Int)
  | s2 (a0 : List Int) (a1 : List UInt8) (a2 : Int) (a3 : List UInt8) (a4 : Int) (a5 : List Int) (a6 : List UInt8) (a7 : Int) (a8 : List Int) (a9 : List Int)
  | s3 (a0 : Int) (a1 : Int) (a2 : List UInt8) (a3 : Int) (a4 : List Int) (a5 : List Int) (a6 : List Int)
noncomputable def f121.todo : f121.St → List Item
  | .s0 _ _ _ _ => [.code (bodyOf Tryz.f121)]
  | .s1 _ _ _ _ _ _ _ _ => atBef Tryz.f121 5
  | .s2 _ _ _ _ _ _ _ _ _ _ => atBef Tryz.f121 9
  | .s3 _ _ _ _ _ _ _ => atBef Tryz.f121 15
noncomputable def f121.fr : f121.St → List SV
  | .s0 a0 a1 a2 a3 => .ptr 0 0 :: .pv (.sl (.int .u32)) a0 :: .fn 120 [] :: ud 89 []
  | .s1 a0 a1 a2 a3 a4 a5 a6 a7 => .ptr 0 0 :: .pv (.sl (.int .u32)) a0 :: .fn 120 [] :: dd 4 (.ptr 2 0 :: .pv .str a1 :: dd 83 [])
  | .s2 a0 a1 a2 a3 a4 a5 a6 a7 a8 a9 => .ptr 0 0 :: .pv (.sl (.int .u32)) a0 :: .fn 120 [] :: dd 4 (.ptr 2 0 :: .pv .str a1 :: .sl 3 none :: .pv (.int .i64) a2 :: dd 81 [])
  | .s3 a0 a1 a2 a3 a4 a5 a6 => dd 11 (.sl 2 none :: dd 57 (.sl 3 none :: .pv (.int .i64) a0 :: .pv (.int .i64) a1 :: dd 20 []))
noncomputable def f121.hp : f121.St → List Blk
  | .s0 a0 a1 a2 a3 => [.box [.sl 1 none, .pv .str a1, .pv (.int .u64) a2] 104, .row (.int .u32) a3 53 true]
  | .s1 a0 a1 a2 a3 a4 a5 a6 a7 => [.box [.sl 1 none, .pv .str a2, .pv (.int .u64) a3] 104, .row (.int .u32) a4 53 true, .box [.sl 3 none, .pv .str a5, .pv (.int .u64) a6] 102, .row (.int .u32) a7 53 true]
  | .s2 a0 a1 a2 a3 a4 a5 a6 a7 a8 a9 => [.box [.sl 1 none, .pv .str a3, .pv (.int .u64) a4] 104, .row (.int .u32) a5 53 true, .box [.sl 4 none, .pv .str a6, .pv (.int .u64) a7] 102, .row (.int .u8) a8 5 true, .row (.int .u32) a9 53 true]
  | .s3 a0 a1 a2 a3 a4 a5 a6 => [.box [.sl 1 none, .pv .str a2, .pv (.int .u64) a3] 104, .row (.int .u32) a4 53 true, .row (.int .u8) a5 5 true, .row (.int .u32) a6 53 true]
noncomputable def f121.step (m : Nat) (K0 : List UInt8 → List UInt8 → Int → List Int → Option R) (call : f121.St → Option R) : f121.St → Option R
  | .s0 a0 a1 a2 a3 => 
  bif ((decide ((List.length a3) ≤ LIM)) && (decide (((List.length a3) * 4) ≤ LIM))) then
   bif (List.isEmpty a3) then
    none
   else
    call (.s1 a0 ([128] : List UInt8) a1 a2 a3 a1 a2 a3)
  else
   none
  | .s1 a0 a1 a2 a3 a4 a5 a6 a7 => 
  bif (!(decide ((Int.tmod (IntKind.wrap .i64 ((((List.length a2) : Nat) : Int) + (((List.length a1) : Nat) : Int))) (64 : Int)) = (56 : Int)))) then
   bif (decide (((List.length a1) + 1) ≤ LIM)) then
    call (.s1 a0 (a1 ++ ([0] : List UInt8)) a2 a3 a4 a5 a6 a7)
   else
    none
  else
   call (.s2 a0 a1 (56 : Int) a2 a3 a4 a5 a6 ([] : List Int) a7)
  | .s2 a0 a1 a2 a3 a4 a5 a6 a7 a8 a9 => 
  bif (decide ((0 : Int) ≤ a2)) then
   bif (decide ((0 : Int) ≤ a2)) then
    let x4 : List Int := [IntKind.wrap .u8 (Int.fdiv (IntKind.wrap .u64 (a4 * (8 : Int))) ((2 : Int) ^ (min (Int.toNat a2) 64)))]
    bif ((decide (((List.length a8) + (List.length x4)) ≤ LIM)) && (decide ((((List.length a8) + (List.length x4)) * 1) ≤ LIM))) then
     call (.s2 a0 a1 (IntKind.wrap .i64 (a2 - (8 : Int))) a3 a4 a5 a6 a7 (a8 ++ x4) a9)
    else
     none
   else
    none
  else
   let x7 : List UInt8 := bytesOf a8
   bif (decide (((List.length a1) + (List.length x7)) ≤ LIM)) then
    f118v2 m (a1 ++ x7) a0 a6 a7 a9 (fun (r9 : List UInt8) (r10 : Int) (r11 : List Int) =>
     call (.s3 (((List.length r11) : Nat) : Int) (0 : Int) a3 a4 a5 ([] : List Int) r11))
   else
    none
  | .s3 a0 a1 a2 a3 a4 a5 a6 => 
  bif (decide (a1 < a0)) then
   bif (inB a1 (List.length a6)) then
    let x2 : Int := List.getD a6 (Int.toNat a1) (0 : Int)
    let x10 : List Int := [IntKind.wrap .u8 (Int.fdiv x2 (16777216 : Int)), IntKind.wrap .u8 (Int.fdiv x2 (65536 : Int)), IntKind.wrap .u8 (Int.fdiv x2 (256 : Int)), IntKind.wrap .u8 x2]
    bif ((decide (((List.length a5) + (List.length x10)) ≤ LIM)) && (decide ((((List.length a5) + (List.length x10)) * 1) ≤ LIM))) then
     call (.s3 a0 (IntKind.wrap .i64 (a1 + (1 : Int))) a2 a3 a4 (a5 ++ x10) a6)
    else
     none
   else
    none
  else
   K0 (bytesOf a5) a2 a3 a4
noncomputable def f121 (m : Nat) (a0 : List Int) (a1 : List UInt8) (a2 : Int) (a3 : List Int) (K0 : List UInt8 → List UInt8 → Int → List Int → Option R) : Option R := iter (f121.step m K0) m (.s0 a0 a1 a2 a3)
noncomputable def f121.pc (m : Nat) (other : Con R) : Con R := pcon [.p (.ptr 0 0), .p (.dat (.sl (.int .u32))), .fn 120 []] [.box [.sl 1, .dat .str, .dat (.int .u64)] 104, .row (.int .u32) 53 true] (fun x y K => f121 m (x.2.1) (y.1.2.1) (y.1.2.2.1) (y.2.1) (fun r0 r1 r2 r3 => K (.pv .str r0) [.box [.sl 1 none, .pv .str r1, .pv (.int .u64) r2] 104, .row (.int .u32) r3 53 true])) other
noncomputable def f121.ct (m : Nat) (f : Nat) : Option (List Mode × Con R) := match f with
  | 118 => some ([.own, .bor, .bor, .own], (f118v2.pc m ncon))
  | _ => none
theorem f121.seg (m : Nat) : Seg (f121.ct (R := R) m) f121.C 2 Tryz.f121 (some [some .str]) f121.todo f121.fr f121.hp (fun K => f121.step m (fun r0 r1 r2 r3 => K (.pv .str r0) [.box [.sl 1 none, .pv .str r1, .pv (.int .u64) r2] 104, .row (.int .u32) r3 53 true])) := fun K call s => by cases s <;> kernel_rfl
theorem f121.ctok (hl : Laid G H0) (m : Nat) : CtOk G H0 (f121.ct (R := R) m) := by
  intro f ms F h
  unfold f121.ct at h
  split at h
  · exact ctk h pl118 (f118v2.ok hl m (ncon_ok _))
  · cases h
theorem f121.ok (hl : Laid G H0) (m : Nat) {other : Con R} (ho : FOk Tryz.prog G H0 121 other) : FOk Tryz.prog G H0 121 (f121.pc m other) :=
  seg_ok (c := bodyOf Tryz.f121) (by kernel_rfl) (by kernel_rfl) ho (f121.ctok hl m) m (f121.seg m) (fun x y => .s0 (x.2.1) (y.1.2.1) (y.1.2.2.1) (y.2.1)) (fun x y K => by kernel_rfl) fun _ _ _ => rfl

noncomputable def f78.C : Cuts := ⟨(fun q => match q with
  | _ => none), (fun _ => none)⟩
inductive f78.St where
  | s0 (a0 : List UInt8) (a1 : Int) (a2 : List Int)
noncomputable def f78.todo : f78.St → List Item
  | .s0 _ _ _ => [.code (bodyOf Tryz.f78)]
noncomputable def f78.fr : f78.St → List SV
  | .s0 a0 a1 a2 => .ptr 0 0 :: ud 7 []
noncomputable def f78.hp : f78.St → List Blk
  | .s0 a0 a1 a2 => [.box [.sl 1 none, .pv .str a0, .pv (.int .u64) a1] 104, .row (.int .u32) a2 53 true]
noncomputable def f78.step (m : Nat) (K0 : List UInt8 → List UInt8 → Int → List Int → Option R) (call : f78.St → Option R) : f78.St → Option R
  | .s0 a0 a1 a2 => 
  f119 m (fun (r1 : List Int) =>
   f121 m r1 a0 a1 a2 (fun (r2 : List UInt8) (r3 : List UInt8) (r4 : Int) (r5 : List Int) =>
    K0 r2 r3 r4 r5))
noncomputable def f78 (m : Nat) (a0 : List UInt8) (a1 : Int) (a2 : List Int) (K0 : List UInt8 → List UInt8 → Int → List Int → Option R) : Option R := iter (f78.step m K0) m (.s0 a0 a1 a2)
noncomputable def f78.pc (m : Nat) (other : Con R) : Con R := pcon [.p (.ptr 0 0)] [.box [.sl 1, .dat .str, .dat (.int .u64)] 104, .row (.int .u32) 53 true] (fun x y K => f78 m (y.1.2.1) (y.1.2.2.1) (y.2.1) (fun r0 r1 r2 r3 => K (.pv .str r0) [.box [.sl 1 none, .pv .str r1, .pv (.int .u64) r2] 104, .row (.int .u32) r3 53 true])) other
noncomputable def f78.ct (m : Nat) (f : Nat) : Option (List Mode × Con R) := match f with
  | 119 => some ([], (f119.pc m ncon))
  | 121 => some ([.own, .bor, .own], (f121.pc m ncon))
  | _ => none
theorem f78.seg (m : Nat) : Seg (f78.ct (R := R) m) f78.C 2 Tryz.f78 (some [some .str]) f78.todo f78.fr f78.hp (fun K => f78.step m (fun r0 r1 r2 r3 => K (.pv .str r0) [.box [.sl 1 none, .pv .str r1, .pv (.int .u64) r2] 104, .row (.int .u32) r3 53 true])) := fun K call s => by cases s <;> kernel_rfl
theorem pl121 : Plain Tryz.prog 121 := ⟨Tryz.f121, by kernel_rfl, by kernel_rfl, by kernel_rfl⟩
theorem f78.ctok (hl : Laid G H0) (m : Nat) : CtOk G H0 (f78.ct (R := R) m) := by
  intro f ms F h
  unfold f78.ct at h
  split at h
  · exact ctk h pl119 (f119.ok hl m (ncon_ok _))
  · exact ctk h pl121 (f121.ok hl m (ncon_ok _))
  · cases h
theorem f78.ok (hl : Laid G H0) (m : Nat) {other : Con R} (ho : FOk Tryz.prog G H0 78 other) : FOk Tryz.prog G H0 78 (f78.pc m other) :=
  seg_ok (c := bodyOf Tryz.f78) (by kernel_rfl) (by kernel_rfl) ho (f78.ctok hl m) m (f78.seg m) (fun x y => .s0 (y.1.2.1) (y.1.2.2.1) (y.2.1)) (fun x y K => by kernel_rfl) fun _ _ _ => rfl

noncomputable def f43.C : Cuts := ⟨(fun q => match q with
  | _ => none), (fun _ => none)⟩
inductive f43.St where
  | s0 (a0 : List UInt8)
noncomputable def f43.todo : f43.St → List Item
  | .s0 _ => [.code (bodyOf Tryz.f43)]
noncomputable def f43.fr : f43.St → List SV
  | .s0 a0 => .pv .str a0 :: ud 6 []
noncomputable def f43.hp : f43.St → List Blk
  | .s0 a0 => []
noncomputable def f43.step (m : Nat) (K0 : List UInt8 → Option R) (call : f43.St → Option R) : f43.St → Option R
  | .s0 a0 => 
  f77 m a0 ([] : List UInt8) (0 : Int) (fun (r1 : List UInt8) (r2 : Int) (r3 : List Int) =>
   f78 m r1 r2 r3 (fun (r4 : List UInt8) (r5 : List UInt8) (r6 : Int) (r7 : List Int) =>
    K0 r4))
noncomputable def f43 (m : Nat) (a0 : List UInt8) (K0 : List UInt8 → Option R) : Option R := iter (f43.step m K0) m (.s0 a0)
noncomputable def f43.pc (m : Nat) (other : Con R) : Con R := pcon [.p (.dat .str)] [] (fun x y K => f43 m (x.1) (fun r0 => K (.pv .str r0) [])) other
noncomputable def f43.ct (m : Nat) (f : Nat) : Option (List Mode × Con R) := match f with
  | 77 => some ([.own, .bor], (f77.pc m ncon))
  | 78 => some ([.own], (f78.pc m ncon))
  | _ => none
theorem f43.seg (m : Nat) : Seg (f43.ct (R := R) m) f43.C 0 Tryz.f43 (some [some .str]) f43.todo f43.fr f43.hp (fun K => f43.step m (fun r0 => K (.pv .str r0) [])) := fun K call s => by cases s <;> kernel_rfl
theorem pl77 : Plain Tryz.prog 77 := ⟨Tryz.f77, by kernel_rfl, by kernel_rfl, by kernel_rfl⟩
theorem pl78 : Plain Tryz.prog 78 := ⟨Tryz.f78, by kernel_rfl, by kernel_rfl, by kernel_rfl⟩
theorem f43.ctok (hl : Laid G H0) (m : Nat) : CtOk G H0 (f43.ct (R := R) m) := by
  intro f ms F h
  unfold f43.ct at h
  split at h
  · exact ctk h pl77 (f77.ok hl m (ncon_ok _))
  · exact ctk h pl78 (f78.ok hl m (ncon_ok _))
  · cases h
theorem f43.ok (hl : Laid G H0) (m : Nat) {other : Con R} (ho : FOk Tryz.prog G H0 43 other) : FOk Tryz.prog G H0 43 (f43.pc m other) :=
  seg_ok (c := bodyOf Tryz.f43) (by kernel_rfl) (by kernel_rfl) ho (f43.ctok hl m) m (f43.seg m) (fun x y => .s0 (x.1)) (fun x y K => by kernel_rfl) fun _ _ _ => rfl

noncomputable def f42.C : Cuts := ⟨(fun q => match q with
  | 3 => some { live := [0, 3, 6, 7], adopt := [(3, [], (.int .u8), 5)] }
  | _ => none), (fun _ => none)⟩
inductive f42.St where
  | s0 (a0 : List UInt8)
  | s1 (a0 : List UInt8) (a1 : Int) (a2 : Int) (a3 : List Int)
noncomputable def f42.todo : f42.St → List Item
  | .s0 _ => [.code (bodyOf Tryz.f42)]
  | .s1 _ _ _ _ => atBef Tryz.f42 3
noncomputable def f42.fr : f42.St → List SV
  | .s0 a0 => .pv .str a0 :: ud 25 []
  | .s1 a0 a1 a2 a3 => .pv .str a0 :: .dead :: .dead :: .sl 0 none :: .dead :: .dead :: .pv (.int .i64) a1 :: .pv (.int .i64) a2 :: dd 18 []
noncomputable def f42.hp : f42.St → List Blk
  | .s0 a0 => []
  | .s1 a0 a1 a2 a3 => [.row (.int .u8) a3 5 true]
noncomputable def f42.step (m : Nat) (K0 : List UInt8 → Option R) (call : f42.St → Option R) : f42.St → Option R
  | .s0 a0 => 
  call (.s1 a0 (((List.length a0) : Nat) : Int) (0 : Int) ([] : List Int))
  | .s1 a0 a1 a2 a3 => 
  bif (decide (a2 < a1)) then
   bif (inB a2 (List.length a0)) then
    let x2 : Int := Int.fdiv ((UInt8.toNat (List.getD a0 (Int.toNat a2) 0) : Nat) : Int) (16 : Int)
    bif (inB x2 16) then
     bif (inB a2 (List.length a0)) then
      let x5 : Int := ibits .and .u8 ((UInt8.toNat (List.getD a0 (Int.toNat a2) 0) : Nat) : Int) (15 : Int)
      bif (inB x5 16) then
       let x7 : List Int := [((UInt8.toNat (List.getD ([48, 49, 50, 51, 52, 53, 54, 55, 56, 57, 97, 98, 99, 100, 101, 102] : List UInt8) (Int.toNat x2) 0) : Nat) : Int), ((UInt8.toNat (List.getD ([48, 49, 50, 51, 52, 53, 54, 55, 56, 57, 97, 98, 99, 100, 101, 102] : List UInt8) (Int.toNat x5) 0) : Nat) : Int)]
       bif ((decide (((List.length a3) + (List.length x7)) ≤ LIM)) && (decide ((((List.length a3) + (List.length x7)) * 1) ≤ LIM))) then
        call (.s1 a0 a1 (IntKind.wrap .i64 (a2 + (1 : Int))) (a3 ++ x7))
       else
        none
      else
       none
     else
      none
    else
     none
   else
    none
  else
   K0 (bytesOf a3)
noncomputable def f42 (m : Nat) (a0 : List UInt8) (K0 : List UInt8 → Option R) : Option R := iter (f42.step m K0) m (.s0 a0)
noncomputable def f42.pc (m : Nat) (other : Con R) : Con R := pcon [.p (.dat .str)] [] (fun x y K => f42 m (x.1) (fun r0 => K (.pv .str r0) [])) other
noncomputable def f42.ct (m : Nat) (f : Nat) : Option (List Mode × Con R) := match f with
  | _ => none
theorem f42.seg (m : Nat) : Seg (f42.ct (R := R) m) f42.C 0 Tryz.f42 (some [some .str]) f42.todo f42.fr f42.hp (fun K => f42.step m (fun r0 => K (.pv .str r0) [])) := fun K call s => by cases s <;> kernel_rfl
theorem f42.ctok (hl : Laid G H0) (m : Nat) : CtOk G H0 (f42.ct (R := R) m) := fun f ms F h => nomatch h
theorem f42.ok (hl : Laid G H0) (m : Nat) {other : Con R} (ho : FOk Tryz.prog G H0 42 other) : FOk Tryz.prog G H0 42 (f42.pc m other) :=
  seg_ok (c := bodyOf Tryz.f42) (by kernel_rfl) (by kernel_rfl) ho (f42.ctok hl m) m (f42.seg m) (fun x y => .s0 (x.1)) (fun x y K => by kernel_rfl) fun _ _ _ => rfl

noncomputable def f19.C : Cuts := ⟨(fun q => match q with
  | _ => none), (fun _ => none)⟩
inductive f19.St where
  | s0 (a0 : Int) (a1 : List UInt8)
noncomputable def f19.todo : f19.St → List Item
  | .s0 _ _ => [.code (bodyOf Tryz.f19)]
noncomputable def f19.fr : f19.St → List SV
  | .s0 a0 a1 => .agg [.pv (.int .i64) a0, .pv .str a1] :: ud 16 []
noncomputable def f19.hp : f19.St → List Blk
  | .s0 a0 a1 => []
noncomputable def f19.step (m : Nat) (K0 : List UInt8 → Int → Option R) (call : f19.St → Option R) : f19.St → Option R
  | .s0 a0 a1 => 
  f18 m a0 a1 (fun (r1 : List UInt8) (r2 : Int) =>
   bif (!(decide (r2 = (0 : Int)))) then
    K0 ([] : List UInt8) r2
   else
    f43 m r1 (fun (r4 : List UInt8) =>
     f42 m r4 (fun (r5 : List UInt8) =>
      K0 r5 (0 : Int))))
noncomputable def f19 (m : Nat) (a0 : Int) (a1 : List UInt8) (K0 : List UInt8 → Int → Option R) : Option R := iter (f19.step m K0) m (.s0 a0 a1)
noncomputable def f19.pc (m : Nat) (other : Con R) : Con R := pcon [.p (.dat (.prod (.int .i64) .str))] [] (fun x y K => f19 m (x.1.1) (x.1.2) (fun r0 r1 => K (.tup [.pv .str r0, .pv (.int .i64) r1]) [])) other
noncomputable def f19.ct (m : Nat) (f : Nat) : Option (List Mode × Con R) := match f with
  | 18 => some ([.bor], (f18.pc m ncon))
  | 43 => some ([.bor], (f43.pc m ncon))
  | 42 => some ([.bor], (f42.pc m ncon))
  | _ => none
theorem f19.seg (m : Nat) : Seg (f19.ct (R := R) m) f19.C 0 Tryz.f19 (some [some .str, some (.int .i64)]) f19.todo f19.fr f19.hp (fun K => f19.step m (fun r0 r1 => K (.tup [.pv .str r0, .pv (.int .i64) r1]) [])) := fun K call s => by cases s <;> kernel_rfl
theorem pl18 : Plain Tryz.prog 18 := ⟨Tryz.f18, by kernel_rfl, by kernel_rfl, by kernel_rfl⟩
theorem pl43 : Plain Tryz.prog 43 := ⟨Tryz.f43, by kernel_rfl, by kernel_rfl, by kernel_rfl⟩
theorem pl42 : Plain Tryz.prog 42 := ⟨Tryz.f42, by kernel_rfl, by kernel_rfl, by kernel_rfl⟩
theorem f19.ctok (hl : Laid G H0) (m : Nat) : CtOk G H0 (f19.ct (R := R) m) := by
  intro f ms F h
  unfold f19.ct at h
  split at h
  · exact ctk h pl18 (f18.ok hl m (ncon_ok _))
  · exact ctk h pl43 (f43.ok hl m (ncon_ok _))
  · exact ctk h pl42 (f42.ok hl m (ncon_ok _))
  · cases h
theorem f19.ok (hl : Laid G H0) (m : Nat) {other : Con R} (ho : FOk Tryz.prog G H0 19 other) : FOk Tryz.prog G H0 19 (f19.pc m other) :=
  seg_ok (c := bodyOf Tryz.f19) (by kernel_rfl) (by kernel_rfl) ho (f19.ctok hl m) m (f19.seg m) (fun x y => .s0 (x.1.1) (x.1.2)) (fun x y K => by kernel_rfl) fun _ _ _ => rfl

noncomputable def f122.C : Cuts := ⟨(fun q => match q with
  | _ => none), (fun _ => none)⟩
inductive f122.St where
  | s0 (a0 : Int)
noncomputable def f122.todo : f122.St → List Item
  | .s0 _ => [.code (bodyOf Tryz.f122)]
noncomputable def f122.fr : f122.St → List SV
  | .s0 a0 => .pv (.int .u8) a0 :: ud 23 []
noncomputable def f122.hp : f122.St → List Blk
  | .s0 a0 => []
noncomputable def f122.step (m : Nat) (K0 : Int → Option R) (call : f122.St → Option R) : f122.St → Option R
  | .s0 a0 => 
  bif (decide ((48 : Int) ≤ a0)) then
   bif (decide (a0 ≤ (57 : Int))) then
    K0 (IntKind.wrap .i64 (IntKind.wrap .u8 (a0 - (48 : Int))))
   else
    bif (decide ((97 : Int) ≤ a0)) then
     bif (decide (a0 ≤ (102 : Int))) then
      K0 (IntKind.wrap .i64 ((IntKind.wrap .i64 (IntKind.wrap .u8 (a0 - (97 : Int)))) + (10 : Int)))
     else
      K0 (-1 : Int)
    else
     K0 (-1 : Int)
  else
   bif (decide ((97 : Int) ≤ a0)) then
    bif (decide (a0 ≤ (102 : Int))) then
     K0 (IntKind.wrap .i64 ((IntKind.wrap .i64 (IntKind.wrap .u8 (a0 - (97 : Int)))) + (10 : Int)))
    else
     K0 (-1 : Int)
   else
    K0 (-1 : Int)
noncomputable def f122 (m : Nat) (a0 : Int) (K0 : Int → Option R) : Option R := iter (f122.step m K0) m (.s0 a0)
noncomputable def f122.pc (m : Nat) (other : Con R) : Con R := pcon [.p (.dat (.int .u8))] [] (fun x y K => f122 m (x.1) (fun r0 => K (.pv (.int .i64) r0) [])) other
noncomputable def f122.ct (m : Nat) (f : Nat) : Option (List Mode × Con R) := match f with
  | _ => none
theorem f122.seg (m : Nat) : Seg (f122.ct (R := R) m) f122.C 0 Tryz.f122 (some [some (.int .i64)]) f122.todo f122.fr f122.hp (fun K => f122.step m (fun r0 => K (.pv (.int .i64) r0) [])) := fun K call s => by cases s <;> kernel_rfl
theorem f122.ctok (hl : Laid G H0) (m : Nat) : CtOk G H0 (f122.ct (R := R) m) := fun f ms F h => nomatch h
theorem f122.ok (hl : Laid G H0) (m : Nat) {other : Con R} (ho : FOk Tryz.prog G H0 122 other) : FOk Tryz.prog G H0 122 (f122.pc m other) :=
  seg_ok (c := bodyOf Tryz.f122) (by kernel_rfl) (by kernel_rfl) ho (f122.ctok hl m) m (f122.seg m) (fun x y => .s0 (x.1)) (fun x y K => by kernel_rfl) fun _ _ _ => rfl

noncomputable def f79.C : Cuts := ⟨(fun q => match q with
  | 3 => some { live := [0, 4, 5], adopt := [(4, [], (.int .u8), 5)] }
  | _ => none), (fun _ => none)⟩
inductive f79.St where
  | s0 (a0 : List UInt8)
  | s1 (a0 : List UInt8) (a1 : Int) (a2 : List Int)
noncomputable def f79.todo : f79.St → List Item
  | .s0 _ => [.code (bodyOf Tryz.f79)]
  | .s1 _ _ _ => atBef Tryz.f79 3
noncomputable def f79.fr : f79.St → List SV
  | .s0 a0 => .pv .str a0 :: ud 43 []
  | .s1 a0 a1 a2 => .pv .str a0 :: dd 3 (.sl 0 none :: .pv (.int .i64) a1 :: dd 38 [])
noncomputable def f79.hp : f79.St → List Blk
  | .s0 a0 => []
  | .s1 a0 a1 a2 => [.row (.int .u8) a2 5 true]
noncomputable def f79.step (m : Nat) (K0 : List UInt8 → Bool → Option R) (call : f79.St → Option R) : f79.St → Option R
  | .s0 a0 => 
  call (.s1 a0 (0 : Int) ([] : List Int))
  | .s1 a0 a1 a2 => 
  bif (decide ((IntKind.wrap .i64 (a1 + (1 : Int))) < (((List.length a0) : Nat) : Int))) then
   bif (inB a1 (List.length a0)) then
    f122 m ((UInt8.toNat (List.getD a0 (Int.toNat a1) 0) : Nat) : Int) (fun (r3 : Int) =>
     let x4 : Int := IntKind.wrap .i64 (a1 + (1 : Int))
     bif (inB x4 (List.length a0)) then
      f122 m ((UInt8.toNat (List.getD a0 (Int.toNat x4) 0) : Nat) : Int) (fun (r6 : Int) =>
       bif (!(decide (r3 < (0 : Int)))) then
        bif (decide (r6 < (0 : Int))) then
         K0 ([] : List UInt8) false
        else
         let x10 : List Int := [IntKind.wrap .u8 (ibits .or .i64 (IntKind.wrap .i64 (r3 * (16 : Int))) r6)]
         bif ((decide (((List.length a2) + (List.length x10)) ≤ LIM)) && (decide ((((List.length a2) + (List.length x10)) * 1) ≤ LIM))) then
          call (.s1 a0 (IntKind.wrap .i64 (a1 + (2 : Int))) (a2 ++ x10))
         else
          none
       else
        K0 ([] : List UInt8) false)
     else
      none)
   else
    none
  else
   bif (!(decide ((Int.tmod (((List.length a0) : Nat) : Int) (2 : Int)) = (0 : Int)))) then
    K0 ([] : List UInt8) false
   else
    K0 (bytesOf a2) true
noncomputable def f79 (m : Nat) (a0 : List UInt8) (K0 : List UInt8 → Bool → Option R) : Option R := iter (f79.step m K0) m (.s0 a0)
noncomputable def f79.pc (m : Nat) (other : Con R) : Con R := pcon [.p (.dat .str)] [] (fun x y K => f79 m (x.1) (fun r0 r1 => K (.tup [.pv .str r0, .pv .bool r1]) [])) other
noncomputable def f79.ct (m : Nat) (f : Nat) : Option (List Mode × Con R) := match f with
  | 122 => some ([.bor], (f122.pc m ncon))
  | _ => none
theorem f79.seg (m : Nat) : Seg (f79.ct (R := R) m) f79.C 0 Tryz.f79 (some [some .str, some .bool]) f79.todo f79.fr f79.hp (fun K => f79.step m (fun r0 r1 => K (.tup [.pv .str r0, .pv .bool r1]) [])) := fun K call s => by cases s <;> kernel_rfl
theorem pl122 : Plain Tryz.prog 122 := ⟨Tryz.f122, by kernel_rfl, by kernel_rfl, by kernel_rfl⟩
theorem f79.ctok (hl : Laid G H0) (m : Nat) : CtOk G H0 (f79.ct (R := R) m) := by
  intro f ms F h
  unfold f79.ct at h
  split at h
  · exact ctk h pl122 (f122.ok hl m (ncon_ok _))
  · cases h
theorem f79.ok (hl : Laid G H0) (m : Nat) {other : Con R} (ho : FOk Tryz.prog G H0 79 other) : FOk Tryz.prog G H0 79 (f79.pc m other) :=
  seg_ok (c := bodyOf Tryz.f79) (by kernel_rfl) (by kernel_rfl) ho (f79.ctok hl m) m (f79.seg m) (fun x y => .s0 (x.1)) (fun x y K => by kernel_rfl) fun _ _ _ => rfl

noncomputable def f44.C : Cuts := ⟨(fun q => match q with
  | _ => none), (fun _ => none)⟩
inductive f44.St where
  | s0 (a0 : List UInt8)
noncomputable def f44.todo : f44.St → List Item
  | .s0 _ => [.code (bodyOf Tryz.f44)]
noncomputable def f44.fr : f44.St → List SV
  | .s0 a0 => .pv .str a0 :: ud 15 []
noncomputable def f44.hp : f44.St → List Blk
  | .s0 a0 => []
noncomputable def f44.step (m : Nat) (K0 : Bool → Option R) (call : f44.St → Option R) : f44.St → Option R
  | .s0 a0 => 
  f79 m a0 (fun (r1 : List UInt8) (r2 : Bool) =>
   bif r2 then
    K0 (decide ((((List.length a0) : Nat) : Int) = (40 : Int)))
   else
    K0 false)
noncomputable def f44 (m : Nat) (a0 : List UInt8) (K0 : Bool → Option R) : Option R := iter (f44.step m K0) m (.s0 a0)
noncomputable def f44.pc (m : Nat) (other : Con R) : Con R := pcon [.p (.dat .str)] [] (fun x y K => f44 m (x.1) (fun r0 => K (.pv .bool r0) [])) other
noncomputable def f44.ct (m : Nat) (f : Nat) : Option (List Mode × Con R) := match f with
  | 79 => some ([.bor], (f79.pc m ncon))
  | _ => none
theorem f44.seg (m : Nat) : Seg (f44.ct (R := R) m) f44.C 0 Tryz.f44 (some [some .bool]) f44.todo f44.fr f44.hp (fun K => f44.step m (fun r0 => K (.pv .bool r0) [])) := fun K call s => by cases s <;> kernel_rfl
theorem pl79 : Plain Tryz.prog 79 := ⟨Tryz.f79, by kernel_rfl, by kernel_rfl, by kernel_rfl⟩
theorem f44.ctok (hl : Laid G H0) (m : Nat) : CtOk G H0 (f44.ct (R := R) m) := by
  intro f ms F h
  unfold f44.ct at h
  split at h
  · exact ctk h pl79 (f79.ok hl m (ncon_ok _))
  · cases h
theorem f44.ok (hl : Laid G H0) (m : Nat) {other : Con R} (ho : FOk Tryz.prog G H0 44 other) : FOk Tryz.prog G H0 44 (f44.pc m other) :=
  seg_ok (c := bodyOf Tryz.f44) (by kernel_rfl) (by kernel_rfl) ho (f44.ctok hl m) m (f44.seg m) (fun x y => .s0 (x.1)) (fun x y K => by kernel_rfl) fun _ _ _ => rfl

noncomputable def f20.C : Cuts := ⟨(fun q => match q with
  | _ => none), (fun _ => none)⟩
inductive f20.St where
  | s0 (a0 : List UInt8)
noncomputable def f20.todo : f20.St → List Item
  | .s0 _ => [.code (bodyOf Tryz.f20)]
noncomputable def f20.fr : f20.St → List SV
  | .s0 a0 => .pv .str a0 :: ud 13 []
noncomputable def f20.hp : f20.St → List Blk
  | .s0 a0 => []
noncomputable def f20.step (m : Nat) (K0 : List UInt8 → Int → Option R) (call : f20.St → Option R) : f20.St → Option R
  | .s0 a0 => 
  f44 m a0 (fun (r1 : Bool) =>
   bif (!r1) then
    K0 ([] : List UInt8) (4 : Int)
   else
    bif (leB (2 : Int) (List.length a0)) then
     let x3 : List UInt8 := List.take 2 a0
     bif (decide ((8 + (List.length x3)) ≤ LIM)) then
      let x4 : List UInt8 := ([111, 98, 106, 101, 99, 116, 115, 47] : List UInt8) ++ x3
      bif (decide (((List.length x4) + 1) ≤ LIM)) then
       let x5 : List UInt8 := x4 ++ ([47] : List UInt8)
       bif (leB (2 : Int) (List.length a0)) then
        let x6 : List UInt8 := List.drop 2 a0
        bif (decide (((List.length x5) + (List.length x6)) ≤ LIM)) then
         K0 (x5 ++ x6) (0 : Int)
        else
         none
       else
        none
      else
       none
     else
      none
    else
     none)
noncomputable def f20 (m : Nat) (a0 : List UInt8) (K0 : List UInt8 → Int → Option R) : Option R := iter (f20.step m K0) m (.s0 a0)
noncomputable def f20.pc (m : Nat) (other : Con R) : Con R := pcon [.p (.dat .str)] [] (fun x y K => f20 m (x.1) (fun r0 r1 => K (.tup [.pv .str r0, .pv (.int .i64) r1]) [])) other
noncomputable def f20.ct (m : Nat) (f : Nat) : Option (List Mode × Con R) := match f with
  | 44 => some ([.bor], (f44.pc m ncon))
  | _ => none
theorem f20.seg (m : Nat) : Seg (f20.ct (R := R) m) f20.C 0 Tryz.f20 (some [some .str, some (.int .i64)]) f20.todo f20.fr f20.hp (fun K => f20.step m (fun r0 r1 => K (.tup [.pv .str r0, .pv (.int .i64) r1]) [])) := fun K call s => by cases s <;> kernel_rfl
theorem pl44 : Plain Tryz.prog 44 := ⟨Tryz.f44, by kernel_rfl, by kernel_rfl, by kernel_rfl⟩
theorem f20.ctok (hl : Laid G H0) (m : Nat) : CtOk G H0 (f20.ct (R := R) m) := by
  intro f ms F h
  unfold f20.ct at h
  split at h
  · exact ctk h pl44 (f44.ok hl m (ncon_ok _))
  · cases h
theorem f20.ok (hl : Laid G H0) (m : Nat) {other : Con R} (ho : FOk Tryz.prog G H0 20 other) : FOk Tryz.prog G H0 20 (f20.pc m other) :=
  seg_ok (c := bodyOf Tryz.f20) (by kernel_rfl) (by kernel_rfl) ho (f20.ctok hl m) m (f20.seg m) (fun x y => .s0 (x.1)) (fun x y K => by kernel_rfl) fun _ _ _ => rfl

noncomputable def f123.C : Cuts := ⟨(fun q => match q with
  | 5 => some { live := [0, 4, 19, 20, 21], adopt := [] }
  | 13 => some { live := [0, 4, 7, 8, 9], adopt := [(4, [17], (.int .i64), 3)] }
  | 20 => some { live := [0, 4, 7, 8, 9, 65, 66, 67], adopt := [(4, [17], (.int .i64), 3)] }
  | _ => none), (fun _ => none)⟩
inductive f123.St where
  | s0 (a0 : List Int)
  | s1 (a0 : Int) (a1 : Int) (a2 : List Int) (a3 : List Int) (a4 : List Int)
  | s2 (a0 : Int) (a1 : Int) (a2 : Int) (a3 : List Int) (a4 : List Int) (a5 : List Int) (a6 : List Int)
  | s3 (a0 : Int) (a1 : Int) (a2 : Int) (a3 : Int) (a4 : Int) (a5 : List Int) (a6 : List Int) (a7 : List Int) (a8 : List Int)
noncomputable def f123.todo : f123.St → List Item
  | .s0 _ => [.code (bodyOf Tryz.f123)]
  | .s1 _ _ _ _ _ => atBef Tryz.f123 5
  | .s2 _ _ _ _ _ _ _ => atBef Tryz.f123 13
  | .s3 _ _ _ _ _ _ _ _ _ => atBef Tryz.f123 20
noncomputable def f123.fr : f123.St → List SV
  | .s0 a0 => .sl 0 none :: ud 105 []
  | .s1 a0 a1 a2 a3 a4 => .sl 0 none :: dd 3 (.ptr 1 0 :: dd 14 (.sl 0 none :: .pv (.int .i64) a0 :: .pv (.int .i64) a1 :: dd 84 []))
  | .s2 a0 a1 a2 a3 a4 a5 a6 => .sl 0 none :: dd 3 (.ptr 1 0 :: .dead :: .dead :: .pv (.int .i64) a0 :: .pv (.int .i64) a1 :: .pv (.int .i64) a2 :: dd 96 [])
  | .s3 a0 a1 a2 a3 a4 a5 a6 a7 a8 => .sl 0 none :: dd 3 (.ptr 1 0 :: .dead :: .dead :: .pv (.int .i64) a0 :: .pv (.int .i64) a1 :: .pv (.int .i64) a2 :: dd 55 (.sl 0 none :: .pv (.int .i64) a3 :: .pv (.int .i64) a4 :: dd 38 []))
noncomputable def f123.hp : f123.St → List Blk
  | .s0 a0 => [.row (.int .i64) a0 3 true]
  | .s1 a0 a1 a2 a3 a4 => [.row (.int .i64) a2 3 true, .box [.sl 2 none, .pv (.arr 16 (.int .i64)) a3, .nils] 166, .row (.int .i64) a4 3 true]
  | .s2 a0 a1 a2 a3 a4 a5 a6 => [.row (.int .i64) a3 3 true, .box [.sl 2 none, .pv (.arr 16 (.int .i64)) a4, .sl 3 none] 166, .row (.int .i64) a5 3 true, .row (.int .i64) a6 3 true]
  | .s3 a0 a1 a2 a3 a4 a5 a6 a7 a8 => [.row (.int .i64) a5 3 true, .box [.sl 2 none, .pv (.arr 16 (.int .i64)) a6, .sl 3 none] 166, .row (.int .i64) a7 3 true, .row (.int .i64) a8 3 true]
noncomputable def f123.step (m : Nat) (K0 : Option ((List Int × (List Int × List Int))) → Int → List Int → Option R) (call : f123.St → Option R) : f123.St → Option R
  | .s0 a0 => 
  bif (decide ((320 : Int) < (((List.length a0) : Nat) : Int))) then
   K0 (none : Option ((List Int × (List Int × List Int)))) (2 : Int) a0
  else
   bif ((decide ((List.length a0) ≤ LIM)) && (decide (((List.length a0) * 8) ≤ LIM))) then
    call (.s1 (((List.length a0) : Nat) : Int) (0 : Int) a0 (List.replicate 16 (0 : Int) : List Int) a0)
   else
    none
  | .s1 a0 a1 a2 a3 a4 => 
  bif (decide (a1 < a0)) then
   bif (inB a1 (List.length a2)) then
    let x2 : Int := List.getD a2 (Int.toNat a1) (0 : Int)
    bif (!(decide (x2 < (0 : Int)))) then
     bif (decide ((15 : Int) < x2)) then
      K0 (none : Option ((List Int × (List Int × List Int)))) (1 : Int) a2
     else
      bif (inB x2 16) then
       bif (inB x2 16) then
        call (.s1 a0 (IntKind.wrap .i64 (a1 + (1 : Int))) a2 (List.set a3 (Int.toNat x2) (IntKind.wrap .i64 ((List.getD a3 (Int.toNat x2) (0 : Int)) + (1 : Int)))) a4)
       else
        none
      else
       none
    else
     K0 (none : Option ((List Int × (List Int × List Int)))) (1 : Int) a2
   else
    none
  else
   call (.s2 (1 : Int) (0 : Int) (1 : Int) a2 a3 a4 ([] : List Int))
  | .s2 a0 a1 a2 a3 a4 a5 a6 => 
  bif (decide (a2 ≤ (15 : Int))) then
   bif (inB a2 16) then
    let x4 : Int := IntKind.wrap .i64 ((IntKind.wrap .i64 ((2 : Int) * a0)) - (List.getD a4 (Int.toNat a2) (0 : Int)))
    bif (inB a2 16) then
     bif (decide (x4 < (0 : Int))) then
      K0 (none : Option ((List Int × (List Int × List Int)))) (4 : Int) a3
     else
      call (.s3 x4 (IntKind.wrap .i64 (a1 + (List.getD a4 (Int.toNat a2) (0 : Int)))) a2 (((List.length a3) : Nat) : Int) (0 : Int) a3 a4 a5 a6)
    else
     none
   else
    none
  else
   bif (decide ((0 : Int) < a0)) then
    bif (decide ((0 : Int) < a1)) then
     bif (decide (a1 = (1 : Int))) then
      bif (!(decide ((List.getD a4 1 (0 : Int)) = (1 : Int)))) then
       K0 (none : Option ((List Int × (List Int × List Int)))) (4 : Int) a3
      else
       K0 (some (a5, (a4, a6))) (0 : Int) a3
     else
      K0 (none : Option ((List Int × (List Int × List Int)))) (4 : Int) a3
    else
     K0 (some (a5, (a4, a6))) (0 : Int) a3
   else
    K0 (some (a5, (a4, a6))) (0 : Int) a3
  | .s3 a0 a1 a2 a3 a4 a5 a6 a7 a8 => 
  bif (decide (a4 < a3)) then
   bif (inB a4 (List.length a5)) then
    bif (decide ((List.getD a5 (Int.toNat a4) (0 : Int)) = a2)) then
     let x3 : List Int := [a4]
     bif ((decide (((List.length a8) + (List.length x3)) ≤ LIM)) && (decide ((((List.length a8) + (List.length x3)) * 8) ≤ LIM))) then
      call (.s3 a0 a1 a2 a3 (IntKind.wrap .i64 (a4 + (1 : Int))) a5 a6 a7 (a8 ++ x3))
     else
      none
    else
     call (.s3 a0 a1 a2 a3 (IntKind.wrap .i64 (a4 + (1 : Int))) a5 a6 a7 a8)
   else
    none
  else
   call (.s2 a0 a1 (IntKind.wrap .i64 (a2 + (1 : Int))) a5 a6 a7 a8)
noncomputable def f123 (m : Nat) (a0 : List Int) (K0 : Option ((List Int × (List Int × List Int))) → Int → List Int → Option R) : Option R := iter (f123.step m K0) m (.s0 a0)
noncomputable def f123.pc (m : Nat) (other : Con R) : Con R := pcon [.p (.sl 0)] [.row (.int .i64) 3 true] (fun x y K => f123 m (y.1) (fun r0 r1 r2 => K (.tup [.pv (.ptr (.prod (.sl (.int .i64)) (.prod (.arr 16 (.int .i64)) (.sl (.int .i64))))) r0, .pv (.int .i64) r1]) [.row (.int .i64) r2 3 true])) other
noncomputable def f123.ct (m : Nat) (f : Nat) : Option (List Mode × Con R) := match f with
  | _ => none
theorem f123.seg (m : Nat) : Seg (f123.ct (R := R) m) f123.C 1 Tryz.f123 (some [some (.ptr (.prod (.sl (.int .i64)) (.prod (.arr 16 (.int .i64)) (.sl (.int .i64))))), some (.int .i64)]) f123.todo f123.fr f123.hp (fun K => f123.step m (fun r0 r1 r2 => K (.tup [.pv (.ptr (.prod (.sl (.int .i64)) (.prod (.arr 16 (.int .i64)) (.sl (.int .i64))))) r0, .pv (.int .i64) r1]) [.row (.int .i64) r2 3 true])) := fun K call s => by cases s <;> kernel_rfl
theorem f123.ctok (hl : Laid G H0) (m : Nat) : CtOk G H0 (f123.ct (R := R) m) := fun f ms F h => nomatch h
theorem f123.ok (hl : Laid G H0) (m : Nat) {other : Con R} (ho : FOk Tryz.prog G H0 123 other) : FOk Tryz.prog G H0 123 (f123.pc m other) :=
  seg_ok (c := bodyOf Tryz.f123) (by kernel_rfl) (by kernel_rfl) ho (f123.ctok hl m) m (f123.seg m) (fun x y => .s0 (y.1)) (fun x y K => by kernel_rfl) fun _ _ _ => rfl

noncomputable def f81.C : Cuts := ⟨(fun q => match q with
  | 3 => some { live := [2, 3, 9], adopt := [(2, [], (.int .i64), 3)] }
  | 8 => some { live := [2, 3, 9], adopt := [] }
  | 9 => some { live := [2, 3, 4, 9], adopt := [] }
  | 13 => some { live := [2, 3, 30], adopt := [(3, [], (.int .i64), 3)] }
  | _ => none), (fun _ => none)⟩
inductive f81.St where
  | s0
  | s1 (a0 : Int) (a1 : List Int)
  | s2 (a0 : Int) (a1 : List Int)
  | s3 (a0 : Int) (a1 : Int) (a2 : List Int)
  | s4 (a0 : Int) (a1 : List Int) (a2 : List Int)
noncomputable def f81.todo : f81.St → List Item
  | .s0 => [.code (bodyOf Tryz.f81)]
  | .s1 _ _ => atBef Tryz.f81 3
  | .s2 _ _ => atBef Tryz.f81 8
  | .s3 _ _ _ => atBef Tryz.f81 9
  | .s4 _ _ _ => atBef Tryz.f81 13
noncomputable def f81.fr : f81.St → List SV
  | .s0 => ud 48 []
  | .s1 a0 a1 => .dead :: .dead :: .sl 0 none :: .nils :: dd 5 (.pv (.int .i64) a0 :: dd 38 [])
  | .s2 a0 a1 => .dead :: .dead :: .sl 0 none :: .nils :: dd 5 (.pv (.int .i64) a0 :: dd 38 [])
  | .s3 a0 a1 a2 => .dead :: .dead :: .sl 0 none :: .nils :: .pv (.int .i64) a0 :: dd 4 (.pv (.int .i64) a1 :: dd 38 [])
  | .s4 a0 a1 a2 => .dead :: .dead :: .sl 0 none :: .sl 1 none :: dd 26 (.pv (.int .i64) a0 :: dd 17 [])
noncomputable def f81.hp : f81.St → List Blk
  | .s0 => []
  | .s1 a0 a1 => [.row (.int .i64) a1 3 true]
  | .s2 a0 a1 => [.row (.int .i64) a1 3 true]
  | .s3 a0 a1 a2 => [.row (.int .i64) a2 3 true]
  | .s4 a0 a1 a2 => [.row (.int .i64) a1 3 true, .row (.int .i64) a2 3 true]
noncomputable def f81.step (m : Nat) (K0 : Option ((List Int × (List Int × List Int))) → Option ((List Int × (List Int × List Int))) → Option R) (call : f81.St → Option R) : f81.St → Option R
  | .s0 => 
  call (.s1 (0 : Int) ([] : List Int))
  | .s1 a0 a1 => 
  bif (decide (a0 < (288 : Int))) then
   bif (decide (a0 < (144 : Int))) then
    bif (decide (a0 < (144 : Int))) then
     call (.s2 a0 a1)
    else
     call (.s3 a0 a0 a1)
   else
    bif (decide ((280 : Int) ≤ a0)) then
     call (.s2 a0 a1)
    else
     call (.s3 a0 a0 a1)
  else
   call (.s4 (0 : Int) a1 ([] : List Int))
  | .s2 a0 a1 => 
  let x1 : List Int := [(8 : Int)]
  bif ((decide (((List.length a1) + (List.length x1)) ≤ LIM)) && (decide ((((List.length a1) + (List.length x1)) * 8) ≤ LIM))) then
   call (.s1 (IntKind.wrap .i64 (a0 + (1 : Int))) (a1 ++ x1))
  else
   none
  | .s3 a0 a1 a2 => 
  bif (decide (a0 < (256 : Int))) then
   let x1 : List Int := [(9 : Int)]
   bif ((decide (((List.length a2) + (List.length x1)) ≤ LIM)) && (decide ((((List.length a2) + (List.length x1)) * 8) ≤ LIM))) then
    call (.s1 (IntKind.wrap .i64 (a1 + (1 : Int))) (a2 ++ x1))
   else
    none
  else
   let x4 : List Int := [(7 : Int)]
   bif ((decide (((List.length a2) + (List.length x4)) ≤ LIM)) && (decide ((((List.length a2) + (List.length x4)) * 8) ≤ LIM))) then
    call (.s1 (IntKind.wrap .i64 (a1 + (1 : Int))) (a2 ++ x4))
   else
    none
  | .s4 a0 a1 a2 => 
  bif (decide (a0 < (32 : Int))) then
   let x1 : List Int := [(5 : Int)]
   bif ((decide (((List.length a2) + (List.length x1)) ≤ LIM)) && (decide ((((List.length a2) + (List.length x1)) * 8) ≤ LIM))) then
    call (.s4 (IntKind.wrap .i64 (a0 + (1 : Int))) a1 (a2 ++ x1))
   else
    none
  else
   f123 m a1 (fun (r4 : Option ((List Int × (List Int × List Int)))) (r5 : Int) (r6 : List Int) =>
    f123 m a2 (fun (r7 : Option ((List Int × (List Int × List Int)))) (r8 : Int) (r9 : List Int) =>
     K0 r4 r7))
noncomputable def f81 (m : Nat) (K0 : Option ((List Int × (List Int × List Int))) → Option ((List Int × (List Int × List Int))) → Option R) : Option R := iter (f81.step m K0) m (.s0)
noncomputable def f81.pc (m : Nat) (other : Con R) : Con R := pcon [] [] (fun x y K => f81 m (fun r0 r1 => K (.tup [.pv (.ptr (.prod (.sl (.int .i64)) (.prod (.arr 16 (.int .i64)) (.sl (.int .i64))))) r0, .pv (.ptr (.prod (.sl (.int .i64)) (.prod (.arr 16 (.int .i64)) (.sl (.int .i64))))) r1]) [])) other
noncomputable def f81.ct (m : Nat) (f : Nat) : Option (List Mode × Con R) := match f with
  | 123 => some ([.own], (f123.pc m ncon))
  | _ => none
theorem f81.seg (m : Nat) : Seg (f81.ct (R := R) m) f81.C 0 Tryz.f81 (some [some (.ptr (.prod (.sl (.int .i64)) (.prod (.arr 16 (.int .i64)) (.sl (.int .i64))))), some (.ptr (.prod (.sl (.int .i64)) (.prod (.arr 16 (.int .i64)) (.sl (.int .i64)))))]) f81.todo f81.fr f81.hp (fun K => f81.step m (fun r0 r1 => K (.tup [.pv (.ptr (.prod (.sl (.int .i64)) (.prod (.arr 16 (.int .i64)) (.sl (.int .i64))))) r0, .pv (.ptr (.prod (.sl (.int .i64)) (.prod (.arr 16 (.int .i64)) (.sl (.int .i64))))) r1]) [])) := fun K call s => by cases s <;> kernel_rfl
theorem pl123 : Plain Tryz.prog 123 := ⟨Tryz.f123, by kernel_rfl, by kernel_rfl, by kernel_rfl⟩
theorem f81.ctok (hl : Laid G H0) (m : Nat) : CtOk G H0 (f81.ct (R := R) m) := by
  intro f ms F h
  unfold f81.ct at h
  split at h
  · exact ctk h pl123 (f123.ok hl m (ncon_ok _))
  · cases h
theorem f81.ok (hl : Laid G H0) (m : Nat) {other : Con R} (ho : FOk Tryz.prog G H0 81 other) : FOk Tryz.prog G H0 81 (f81.pc m other) :=
  seg_ok (c := bodyOf Tryz.f81) (by kernel_rfl) (by kernel_rfl) ho (f81.ctok hl m) m (f81.seg m) (fun x y => .s0) (fun x y K => by kernel_rfl) fun _ _ _ => rfl

noncomputable def f82.C : Cuts := ⟨(fun q => match q with
  | 3 => some { live := [0], adopt := [(0, [0], (.int .u8), 5)] }
  | _ => none), (fun _ => none)⟩
inductive f82.St where
  | s0 (a0 : Int) (a1 : Int) (a2 : Int) (a3 : Int)
  | s1 (a0 : Int) (a1 : Int) (a2 : List Int)
noncomputable def f82.todo : f82.St → List Item
  | .s0 _ _ _ _ => [.code (bodyOf Tryz.f82)]
  | .s1 _ _ _ => atBef Tryz.f82 3
noncomputable def f82.fr : f82.St → List SV
  | .s0 a0 a1 a2 a3 => .ptr 0 0 :: .pv (.int .u32) a0 :: .pv (.int .i64) a1 :: ud 68 []
  | .s1 a0 a1 a2 => .ptr 0 0 :: dd 70 []
noncomputable def f82.hp : f82.St → List Blk
  | .s0 a0 a1 a2 a3 => [.box [.nils, .pv (.int .u64) a2, .pv (.int .i64) a3] 110]
  | .s1 a0 a1 a2 => [.box [.sl 1 none, .pv (.int .u64) a0, .pv (.int .i64) a1] 110, .row (.int .u8) a2 5 true]
noncomputable def f82.step (m : Nat) (K0 : Int → Int → Option R) (K1 : Int → Int → List Int → Option R) (call : f82.St → Option R) : f82.St → Option R
  | .s0 a0 a1 a2 a3 => 
  bif (!(decide (a1 < (0 : Int)))) then
   bif (decide ((32 : Int) < a1)) then
    K0 a2 a3
   else
    bif (decide ((0 : Int) ≤ a1)) then
     bif (decide ((0 : Int) ≤ a3)) then
      call (.s1 (ibits .or .u64 a2 (IntKind.wrap .u64 ((ibits .and .u64 (IntKind.wrap .u64 a0) (IntKind.wrap .u64 ((IntKind.wrap .u64 ((1 : Int) * ((2 : Int) ^ (min (Int.toNat a1) 64)))) - (1 : Int)))) * ((2 : Int) ^ (min (Int.toNat a3) 64))))) (IntKind.wrap .i64 (a3 + a1)) ([] : List Int))
     else
      none
    else
     none
  else
   K0 a2 a3
  | .s1 a0 a1 a2 => 
  bif (decide ((8 : Int) ≤ a1)) then
   let x2 : List Int := [IntKind.wrap .u8 a0]
   bif ((decide (((List.length a2) + (List.length x2)) ≤ LIM)) && (decide ((((List.length a2) + (List.length x2)) * 1) ≤ LIM))) then
    call (.s1 (Int.fdiv a0 (256 : Int)) (IntKind.wrap .i64 (a1 - (8 : Int))) (a2 ++ x2))
   else
    none
  else
   K1 a0 a1 a2
noncomputable def f82 (m : Nat) (a0 : Int) (a1 : Int) (a2 : Int) (a3 : Int) (K0 : Int → Int → Option R) (K1 : Int → Int → List Int → Option R) : Option R := iter (f82.step m K0 K1) m (.s0 a0 a1 a2 a3)
noncomputable def f82.pc (m : Nat) (other : Con R) : Con R := pcon [.p (.ptr 0 0), .p (.dat (.int .u32)), .p (.dat (.int .i64))] [.box [.nils, .dat (.int .u64), .dat (.int .i64)] 110] (fun x y K => f82 m (x.2.1) (x.2.2.1) (y.1.2.1) (y.1.2.2.1) (fun r0 r1 => K (.tup []) [.box [.nils, .pv (.int .u64) r0, .pv (.int .i64) r1] 110]) (fun r0 r1 r2 => K (.tup []) [.box [.sl 1 none, .pv (.int .u64) r0, .pv (.int .i64) r1] 110, .row (.int .u8) r2 5 true])) other
noncomputable def f82.ct (m : Nat) (f : Nat) : Option (List Mode × Con R) := match f with
  | _ => none
theorem f82.seg (m : Nat) : Seg (f82.ct (R := R) m) f82.C 1 Tryz.f82 (some []) f82.todo f82.fr f82.hp (fun K => f82.step m (fun r0 r1 => K (.tup []) [.box [.nils, .pv (.int .u64) r0, .pv (.int .i64) r1] 110]) (fun r0 r1 r2 => K (.tup []) [.box [.sl 1 none, .pv (.int .u64) r0, .pv (.int .i64) r1] 110, .row (.int .u8) r2 5 true])) := fun K call s => by cases s <;> kernel_rfl
theorem f82.ctok (hl : Laid G H0) (m : Nat) : CtOk G H0 (f82.ct (R := R) m) := fun f ms F h => nomatch h
theorem f82.ok (hl : Laid G H0) (m : Nat) {other : Con R} (ho : FOk Tryz.prog G H0 82 other) : FOk Tryz.prog G H0 82 (f82.pc m other) :=
  seg_ok (c := bodyOf Tryz.f82) (by kernel_rfl) (by kernel_rfl) ho (f82.ctok hl m) m (f82.seg m) (fun x y => .s0 (x.2.1) (x.2.2.1) (y.1.2.1) (y.1.2.2.1)) (fun x y K => by kernel_rfl) fun _ _ _ => rfl

noncomputable def f83.C : Cuts := ⟨(fun q => match q with
  | 5 => some { live := [0, 1, 6, 7, 8], adopt := [] }
  | 9 => some { live := [0, 1, 6, 7, 8, 41, 42], adopt := [] }
  | _ => none), (fun _ => none)⟩
inductive f83.St where
  | s0 (a0 : Option ((List Int × (List Int × List Int)))) (a1 : Int)
  | s1 (a0 : Option ((List Int × (List Int × List Int)))) (a1 : Int) (a2 : Int) (a3 : Int) (a4 : Int)
  | s2 (a0 : Option ((List Int × (List Int × List Int)))) (a1 : Int) (a2 : Int) (a3 : Int) (a4 : Int) (a5 : Int) (a6 : Int)
noncomputable def f83.todo : f83.St → List Item
  | .s0 _ _ => [.code (bodyOf Tryz.f83)]
  | .s1 _ _ _ _ _ => atBef Tryz.f83 5
  | .s2 _ _ _ _ _ _ _ => atBef Tryz.f83 9
noncomputable def f83.fr : f83.St → List SV
  | .s0 a0 a1 => .pv (.ptr (.prod (.sl (.int .i64)) (.prod (.arr 16 (.int .i64)) (.sl (.int .i64))))) a0 :: .pv (.int .i64) a1 :: ud 58 []
  | .s1 a0 a1 a2 a3 a4 => .pv (.ptr (.prod (.sl (.int .i64)) (.prod (.arr 16 (.int .i64)) (.sl (.int .i64))))) a0 :: .pv (.int .i64) a1 :: dd 4 (.pv (.int .u32) a2 :: .pv (.int .i64) a3 :: .pv (.int .i64) a4 :: dd 51 [])
  | .s2 a0 a1 a2 a3 a4 a5 a6 => .pv (.ptr (.prod (.sl (.int .i64)) (.prod (.arr 16 (.int .i64)) (.sl (.int .i64))))) a0 :: .pv (.int .i64) a1 :: dd 4 (.pv (.int .u32) a2 :: .pv (.int .i64) a3 :: .pv (.int .i64) a4 :: dd 32 (.pv (.int .i64) a5 :: .pv (.int .i64) a6 :: dd 17 []))
noncomputable def f83.hp : f83.St → List Blk
  | .s0 a0 a1 => []
  | .s1 a0 a1 a2 a3 a4 => []
  | .s2 a0 a1 a2 a3 a4 a5 a6 => []
noncomputable def f83.step (m : Nat) (K0 : Int → Int → Option R) (call : f83.St → Option R) : f83.St → Option R
  | .s0 a0 a1 => 
  bif (!(decide (a1 < (0 : Int)))) then
   deref a0 fun (p1 : (List Int × (List Int × List Int))) =>
   bif (!(decide ((((List.length p1.1) : Nat) : Int) ≤ a1))) then
    deref a0 fun (p2 : (List Int × (List Int × List Int))) =>
    bif (inB a1 (List.length p2.1)) then
     bif (decide ((List.getD p2.1 (Int.toNat a1) (0 : Int)) = (0 : Int))) then
      K0 (0 : Int) (0 : Int)
     else
      call (.s1 a0 a1 (0 : Int) (0 : Int) (1 : Int))
    else
     none
   else
    K0 (0 : Int) (0 : Int)
  else
   K0 (0 : Int) (0 : Int)
  | .s1 a0 a1 a2 a3 a4 => 
  bif (decide (a4 ≤ (15 : Int))) then
   deref a0 fun (p2 : (List Int × (List Int × List Int))) =>
   bif (inB a4 16) then
    call (.s2 a0 a1 (IntKind.wrap .u32 (a2 * (2 : Int))) a3 a4 (List.getD p2.2.1 (Int.toNat a4) (0 : Int)) (0 : Int))
   else
    none
  else
   K0 (0 : Int) (0 : Int)
  | .s2 a0 a1 a2 a3 a4 a5 a6 => 
  bif (decide (a6 < a5)) then
   deref a0 fun (p1 : (List Int × (List Int × List Int))) =>
   bif (inB a3 (List.length p1.2.2)) then
    bif (decide ((List.getD p1.2.2 (Int.toNat a3) (0 : Int)) = a1)) then
     K0 a2 a4
    else
     call (.s2 a0 a1 (IntKind.wrap .u32 (a2 + (1 : Int))) (IntKind.wrap .i64 (a3 + (1 : Int))) a4 a5 (IntKind.wrap .i64 (a6 + (1 : Int))))
   else
    none
  else
   call (.s1 a0 a1 a2 a3 (IntKind.wrap .i64 (a4 + (1 : Int))))
noncomputable def f83 (m : Nat) (a0 : Option ((List Int × (List Int × List Int)))) (a1 : Int) (K0 : Int → Int → Option R) : Option R := iter (f83.step m K0) m (.s0 a0 a1)
noncomputable def f83.pc (m : Nat) (other : Con R) : Con R := pcon [.p (.dat (.ptr (.prod (.sl (.int .i64)) (.prod (.arr 16 (.int .i64)) (.sl (.int .i64)))))), .p (.dat (.int .i64))] [] (fun x y K => f83 m (x.1) (x.2.1) (fun r0 r1 => K (.tup [.pv (.int .u32) r0, .pv (.int .i64) r1]) [])) other
noncomputable def f83.ct (m : Nat) (f : Nat) : Option (List Mode × Con R) := match f with
  | _ => none
theorem f83.seg (m : Nat) : Seg (f83.ct (R := R) m) f83.C 0 Tryz.f83 (some [some (.int .u32), some (.int .i64)]) f83.todo f83.fr f83.hp (fun K => f83.step m (fun r0 r1 => K (.tup [.pv (.int .u32) r0, .pv (.int .i64) r1]) [])) := fun K call s => by cases s <;> kernel_rfl
theorem f83.ctok (hl : Laid G H0) (m : Nat) : CtOk G H0 (f83.ct (R := R) m) := fun f ms F h => nomatch h
theorem f83.ok (hl : Laid G H0) (m : Nat) {other : Con R} (ho : FOk Tryz.prog G H0 83 other) : FOk Tryz.prog G H0 83 (f83.pc m other) :=
  seg_ok (c := bodyOf Tryz.f83) (by kernel_rfl) (by kernel_rfl) ho (f83.ctok hl m) m (f83.seg m) (fun x y => .s0 (x.1) (x.2.1)) (fun x y K => by kernel_rfl) fun _ _ _ => rfl

noncomputable def f82v2.C : Cuts := ⟨(fun q => match q with
  | 3 => some { live := [0], adopt := [] }
  | _ => none), (fun _ => none)⟩
inductive f82v2.St where
  | s0 (a0 : Int) (a1 : Int) (a2 : Int) (a3 : Int) (a4 : List Int)
  | s1 (a0 : Int) (a1 : Int) (a2 : List Int)
  | s2 (a0 : Int) (a1 : Int) (a2 : List Int)
noncomputable def f82v2.todo : f82v2.St → List Item
  | .s0 _ _ _ _ _ => [.code (bodyOf Tryz.f82)]
  | .s1 _ _ _ => atBef Tryz.f82 3
  | .s2 _ _ _ => atBef Tryz.f82 3
noncomputable def f82v2.fr : f82v2.St → List SV
  | .s0 a0 a1 a2 a3 a4 => .ptr 0 0 :: .pv (.int .u32) a0 :: .pv (.int .i64) a1 :: ud 68 []
  | .s1 a0 a1 a2 => .ptr 0 0 :: dd 70 []
  | .s2 a0 a1 a2 => .ptr 0 0 :: dd 70 []
noncomputable def f82v2.hp : f82v2.St → List Blk
  | .s0 a0 a1 a2 a3 a4 => [.box [.sl 1 none, .pv (.int .u64) a2, .pv (.int .i64) a3] 110, .row (.int .u8) a4 5 true]
  | .s1 a0 a1 a2 => [.box [.sl 1 none, .pv (.int .u64) a0, .pv (.int .i64) a1] 110, .row (.int .u8) a2 5 true]
  | .s2 a0 a1 a2 => [.box [.sl 2 none, .pv (.int .u64) a0, .pv (.int .i64) a1] 110, .dead, .row (.int .u8) a2 5 true]
noncomputable def f82v2.step (m : Nat) (K0 : Int → Int → List Int → Option R) (K1 : Int → Int → List Int → Option R) (call : f82v2.St → Option R) : f82v2.St → Option R
  | .s0 a0 a1 a2 a3 a4 => 
  bif (!(decide (a1 < (0 : Int)))) then
   bif (decide ((32 : Int) < a1)) then
    K0 a2 a3 a4
   else
    bif (decide ((0 : Int) ≤ a1)) then
     bif (decide ((0 : Int) ≤ a3)) then
      call (.s1 (ibits .or .u64 a2 (IntKind.wrap .u64 ((ibits .and .u64 (IntKind.wrap .u64 a0) (IntKind.wrap .u64 ((IntKind.wrap .u64 ((1 : Int) * ((2 : Int) ^ (min (Int.toNat a1) 64)))) - (1 : Int)))) * ((2 : Int) ^ (min (Int.toNat a3) 64))))) (IntKind.wrap .i64 (a3 + a1)) a4)
     else
      none
    else
     none
  else
   K0 a2 a3 a4
  | .s1 a0 a1 a2 => 
  bif (decide ((8 : Int) ≤ a1)) then
   let x2 : List Int := [IntKind.wrap .u8 a0]
   bif ((decide (((List.length a2) + (List.length x2)) ≤ LIM)) && (decide ((((List.length a2) + (List.length x2)) * 1) ≤ LIM))) then
    call (.s2 (Int.fdiv a0 (256 : Int)) (IntKind.wrap .i64 (a1 - (8 : Int))) (a2 ++ x2))
   else
    none
  else
   K0 a0 a1 a2
  | .s2 a0 a1 a2 => 
  bif (decide ((8 : Int) ≤ a1)) then
   let x2 : List Int := [IntKind.wrap .u8 a0]
   bif ((decide (((List.length a2) + (List.length x2)) ≤ LIM)) && (decide ((((List.length a2) + (List.length x2)) * 1) ≤ LIM))) then
    call (.s2 (Int.fdiv a0 (256 : Int)) (IntKind.wrap .i64 (a1 - (8 : Int))) (a2 ++ x2))
   else
    none
  else
   K1 a0 a1 a2
noncomputable def f82v2 (m : Nat) (a0 : Int) (a1 : Int) (a2 : Int) (a3 : Int) (a4 : List Int) (K0 : Int → Int → List Int → Option R) (K1 : Int → Int → List Int → Option R) : Option R := iter (f82v2.step m K0 K1) m (.s0 a0 a1 a2 a3 a4)
noncomputable def f82v2.pc (m : Nat) (other : Con R) : Con R := pcon [.p (.ptr 0 0), .p (.dat (.int .u32)), .p (.dat (.int .i64))] [.box [.sl 1, .dat (.int .u64), .dat (.int .i64)] 110, .row (.int .u8) 5 true] (fun x y K => f82v2 m (x.2.1) (x.2.2.1) (y.1.2.1) (y.1.2.2.1) (y.2.1) (fun r0 r1 r2 => K (.tup []) [.box [.sl 1 none, .pv (.int .u64) r0, .pv (.int .i64) r1] 110, .row (.int .u8) r2 5 true]) (fun r0 r1 r2 => K (.tup []) [.box [.sl 2 none, .pv (.int .u64) r0, .pv (.int .i64) r1] 110, .dead, .row (.int .u8) r2 5 true])) other
noncomputable def f82v2.ct (m : Nat) (f : Nat) : Option (List Mode × Con R) := match f with
  | _ => none
theorem f82v2.seg (m : Nat) : Seg (f82v2.ct (R := R) m) f82v2.C 2 Tryz.f82 (some []) f82v2.todo f82v2.fr f82v2.hp (fun K => f82v2.step m (fun r0 r1 r2 => K (.tup []) [.box [.sl 1 none, .pv (.int .u64) r0, .pv (.int .i64) r1] 110, .row (.int .u8) r2 5 true]) (fun r0 r1 r2 => K (.tup []) [.box [.sl 2 none, .pv (.int .u64) r0, .pv (.int .i64) r1] 110, .dead, .row (.int .u8) r2 5 true])) := fun K call s => by cases s <;> kernel_rfl
theorem f82v2.ctok (hl : Laid G H0) (m : Nat) : CtOk G H0 (f82v2.ct (R := R) m) := fun f ms F h => nomatch h
theorem f82v2.ok (hl : Laid G H0) (m : Nat) {other : Con R} (ho : FOk Tryz.prog G H0 82 other) : FOk Tryz.prog G H0 82 (f82v2.pc m other) :=
  seg_ok (c := bodyOf Tryz.f82) (by kernel_rfl) (by kernel_rfl) ho (f82v2.ctok hl m) m (f82v2.seg m) (fun x y => .s0 (x.2.1) (x.2.2.1) (y.1.2.1) (y.1.2.2.1) (y.2.1)) (fun x y K => by kernel_rfl) fun _ _ _ => rfl

noncomputable def f84.C : Cuts := ⟨(fun q => match q with
  | 2 => some { live := [0, 1, 6], adopt := [] }
  | _ => none), (fun _ => none)⟩
inductive f84.St where
  | s0 (a0 : Int) (a1 : Int) (a2 : Int) (a3 : Int) (a4 : List Int)
  | s1 (a0 : Int) (a1 : Int) (a2 : Int) (a3 : Int) (a4 : List Int)
  | s2 (a0 : Int) (a1 : Int) (a2 : Int) (a3 : Int) (a4 : List Int)
noncomputable def f84.todo : f84.St → List Item
  | .s0 _ _ _ _ _ => [.code (bodyOf Tryz.f84)]
  | .s1 _ _ _ _ _ => atBef Tryz.f84 2
  | .s2 _ _ _ _ _ => atBef Tryz.f84 2
noncomputable def f84.fr : f84.St → List SV
  | .s0 a0 a1 a2 a3 a4 => .ptr 0 0 :: .pv (.int .u32) a0 :: .pv (.int .i64) a1 :: ud 21 []
  | .s1 a0 a1 a2 a3 a4 => .ptr 0 0 :: .pv (.int .u32) a0 :: dd 4 (.pv (.int .i64) a1 :: dd 17 [])
  | .s2 a0 a1 a2 a3 a4 => .ptr 0 0 :: .pv (.int .u32) a0 :: dd 4 (.pv (.int .i64) a1 :: dd 17 [])
noncomputable def f84.hp : f84.St → List Blk
  | .s0 a0 a1 a2 a3 a4 => [.box [.sl 1 none, .pv (.int .u64) a2, .pv (.int .i64) a3] 110, .row (.int .u8) a4 5 true]
  | .s1 a0 a1 a2 a3 a4 => [.box [.sl 1 none, .pv (.int .u64) a2, .pv (.int .i64) a3] 110, .row (.int .u8) a4 5 true]
  | .s2 a0 a1 a2 a3 a4 => [.box [.sl 2 none, .pv (.int .u64) a2, .pv (.int .i64) a3] 110, .dead, .row (.int .u8) a4 5 true]
noncomputable def f84.step (m : Nat) (K0 : Int → Int → List Int → Option R) (K1 : Int → Int → List Int → Option R) (call : f84.St → Option R) : f84.St → Option R
  | .s0 a0 a1 a2 a3 a4 => 
  bif (!(decide (a1 < (1 : Int)))) then
   bif (decide ((32 : Int) < a1)) then
    K0 a2 a3 a4
   else
    call (.s1 a0 (IntKind.wrap .i64 (a1 - (1 : Int))) a2 a3 a4)
  else
   K0 a2 a3 a4
  | .s1 a0 a1 a2 a3 a4 => 
  bif (decide ((0 : Int) ≤ a1)) then
   bif (decide ((0 : Int) ≤ a1)) then
    f82v2 m (Int.fdiv a0 ((2 : Int) ^ (min (Int.toNat a1) 32))) (1 : Int) a2 a3 a4 (fun (r2 : Int) (r3 : Int) (r4 : List Int) =>
     call (.s1 a0 (IntKind.wrap .i64 (a1 - (1 : Int))) r2 r3 r4)) (fun (r6 : Int) (r7 : Int) (r8 : List Int) =>
     call (.s2 a0 (IntKind.wrap .i64 (a1 - (1 : Int))) r6 r7 r8))
   else
    none
  else
   K0 a2 a3 a4
  | .s2 a0 a1 a2 a3 a4 => 
  bif (decide ((0 : Int) ≤ a1)) then
   bif (decide ((0 : Int) ≤ a1)) then
    f82v2 m (Int.fdiv a0 ((2 : Int) ^ (min (Int.toNat a1) 32))) (1 : Int) a2 a3 a4 (fun (r2 : Int) (r3 : Int) (r4 : List Int) =>
     call (.s2 a0 (IntKind.wrap .i64 (a1 - (1 : Int))) r2 r3 r4)) (fun (r6 : Int) (r7 : Int) (r8 : List Int) =>
     call (.s2 a0 (IntKind.wrap .i64 (a1 - (1 : Int))) r6 r7 r8))
   else
    none
  else
   K1 a2 a3 a4
noncomputable def f84 (m : Nat) (a0 : Int) (a1 : Int) (a2 : Int) (a3 : Int) (a4 : List Int) (K0 : Int → Int → List Int → Option R) (K1 : Int → Int → List Int → Option R) : Option R := iter (f84.step m K0 K1) m (.s0 a0 a1 a2 a3 a4)
noncomputable def f84.pc (m : Nat) (other : Con R) : Con R := pcon [.p (.ptr 0 0), .p (.dat (.int .u32)), .p (.dat (.int .i64))] [.box [.sl 1, .dat (.int .u64), .dat (.int .i64)] 110, .row (.int .u8) 5 true] (fun x y K => f84 m (x.2.1) (x.2.2.1) (y.1.2.1) (y.1.2.2.1) (y.2.1) (fun r0 r1 r2 => K (.tup []) [.box [.sl 1 none, .pv (.int .u64) r0, .pv (.int .i64) r1] 110, .row (.int .u8) r2 5 true]) (fun r0 r1 r2 => K (.tup []) [.box [.sl 2 none, .pv (.int .u64) r0, .pv (.int .i64) r1] 110, .dead, .row (.int .u8) r2 5 true])) other
noncomputable def f84.ct (m : Nat) (f : Nat) : Option (List Mode × Con R) := match f with
  | 82 => some ([.own, .bor, .bor], (f82v2.pc m ncon))
  | _ => none
theorem f84.seg (m : Nat) : Seg (f84.ct (R := R) m) f84.C 2 Tryz.f84 (some []) f84.todo f84.fr f84.hp (fun K => f84.step m (fun r0 r1 r2 => K (.tup []) [.box [.sl 1 none, .pv (.int .u64) r0, .pv (.int .i64) r1] 110, .row (.int .u8) r2 5 true]) (fun r0 r1 r2 => K (.tup []) [.box [.sl 2 none, .pv (.int .u64) r0, .pv (.int .i64) r1] 110, .dead, .row (.int .u8) r2 5 true])) := fun K call s => by cases s <;> kernel_rfl
theorem pl82 : Plain Tryz.prog 82 := ⟨Tryz.f82, by kernel_rfl, by kernel_rfl, by kernel_rfl⟩
theorem f84.ctok (hl : Laid G H0) (m : Nat) : CtOk G H0 (f84.ct (R := R) m) := by
  intro f ms F h
  unfold f84.ct at h
  split at h
  · exact ctk h pl82 (f82v2.ok hl m (ncon_ok _))
  · cases h
theorem f84.ok (hl : Laid G H0) (m : Nat) {other : Con R} (ho : FOk Tryz.prog G H0 84 other) : FOk Tryz.prog G H0 84 (f84.pc m other) :=
  seg_ok (c := bodyOf Tryz.f84) (by kernel_rfl) (by kernel_rfl) ho (f84.ctok hl m) m (f84.seg m) (fun x y => .s0 (x.2.1) (x.2.2.1) (y.1.2.1) (y.1.2.2.1) (y.2.1)) (fun x y K => by kernel_rfl) fun _ _ _ => rfl

noncomputable def f88.C : Cuts := ⟨(fun q => match q with
  | _ => none), (fun _ => none)⟩
inductive f88.St where
  | s0 (a0 : Option ((List Int × (Int × Int))))
noncomputable def f88.todo : f88.St → List Item
  | .s0 _ => [.code (bodyOf Tryz.f88)]
noncomputable def f88.fr : f88.St → List SV
  | .s0 a0 => .pv (.ptr (.prod (.sl (.int .u8)) (.prod (.int .u64) (.int .i64)))) a0 :: ud 25 []
noncomputable def f88.hp : f88.St → List Blk
  | .s0 a0 => []
noncomputable def f88.step (m : Nat) (K0 : List UInt8 → Option R) (call : f88.St → Option R) : f88.St → Option R
  | .s0 a0 => 
  deref a0 fun (p1 : (List Int × (Int × Int))) =>
  bif (decide ((0 : Int) < p1.2.2)) then
   deref a0 fun (p2 : (List Int × (Int × Int))) =>
   let x3 : List UInt8 := bytesOf p2.1
   deref a0 fun (p4 : (List Int × (Int × Int))) =>
   let x6 : List Int := [IntKind.wrap .u8 p4.2.1]
   let x7 : List UInt8 := bytesOf x6
   bif (decide (((List.length x3) + (List.length x7)) ≤ LIM)) then
    K0 (x3 ++ x7)
   else
    none
  else
   deref a0 fun (p9 : (List Int × (Int × Int))) =>
   K0 (bytesOf p9.1)
noncomputable def f88 (m : Nat) (a0 : Option ((List Int × (Int × Int)))) (K0 : List UInt8 → Option R) : Option R := iter (f88.step m K0) m (.s0 a0)
noncomputable def f88.pc (m : Nat) (other : Con R) : Con R := pcon [.p (.dat (.ptr (.prod (.sl (.int .u8)) (.prod (.int .u64) (.int .i64)))))] [] (fun x y K => f88 m (x.1) (fun r0 => K (.pv .str r0) [])) other
noncomputable def f88.ct (m : Nat) (f : Nat) : Option (List Mode × Con R) := match f with
  | _ => none
theorem f88.seg (m : Nat) : Seg (f88.ct (R := R) m) f88.C 0 Tryz.f88 (some [some .str]) f88.todo f88.fr f88.hp (fun K => f88.step m (fun r0 => K (.pv .str r0) [])) := fun K call s => by cases s <;> kernel_rfl
theorem f88.ctok (hl : Laid G H0) (m : Nat) : CtOk G H0 (f88.ct (R := R) m) := fun f ms F h => nomatch h
theorem f88.ok (hl : Laid G H0) (m : Nat) {other : Con R} (ho : FOk Tryz.prog G H0 88 other) : FOk Tryz.prog G H0 88 (f88.pc m other) :=
  seg_ok (c := bodyOf Tryz.f88) (by kernel_rfl) (by kernel_rfl) ho (f88.ctok hl m) m (f88.seg m) (fun x y => .s0 (x.1)) (fun x y K => by kernel_rfl) fun _ _ _ => rfl

noncomputable def f125.C : Cuts := ⟨(fun q => match q with
  | 3 => some { live := [0, 5, 8, 9], adopt := [(5, [], (.int .u8), 5)] }
  | _ => none), (fun _ => none)⟩
inductive f125.St where
  | s0 (a0 : Int) (a1 : Int)
  | s1 (a0 : Int) (a1 : Int) (a2 : Int) (a3 : List Int)
noncomputable def f125.todo : f125.St → List Item
  | .s0 _ _ => [.code (bodyOf Tryz.f125)]
  | .s1 _ _ _ _ => atBef Tryz.f125 3
noncomputable def f125.fr : f125.St → List SV
  | .s0 a0 a1 => .pv (.int .u64) a0 :: .pv (.int .i64) a1 :: ud 26 []
  | .s1 a0 a1 a2 a3 => .pv (.int .u64) a0 :: dd 4 (.sl 0 none :: .dead :: .dead :: .pv (.int .i64) a1 :: .pv (.int .i64) a2 :: dd 18 [])
noncomputable def f125.hp : f125.St → List Blk
  | .s0 a0 a1 => []
  | .s1 a0 a1 a2 a3 => [.row (.int .u8) a3 5 true]
noncomputable def f125.step (m : Nat) (K0 : List UInt8 → Option R) (call : f125.St → Option R) : f125.St → Option R
  | .s0 a0 a1 => 
  call (.s1 a0 (if (0 : Int) > a1 then (0 : Int) else a1) (0 : Int) ([] : List Int))
  | .s1 a0 a1 a2 a3 => 
  bif (decide (a2 < a1)) then
   bif (decide ((8 : Int) ≤ a2)) then
    let x1 : List Int := [(0 : Int)]
    bif ((decide (((List.length a3) + (List.length x1)) ≤ LIM)) && (decide ((((List.length a3) + (List.length x1)) * 1) ≤ LIM))) then
     call (.s1 a0 a1 (IntKind.wrap .i64 (a2 + (1 : Int))) (a3 ++ x1))
    else
     none
   else
    let x4 : Int := IntKind.wrap .i64 ((8 : Int) * a2)
    bif (decide ((0 : Int) ≤ x4)) then
     let x7 : List Int := [IntKind.wrap .u8 (Int.fdiv a0 ((2 : Int) ^ (min (Int.toNat x4) 64)))]
     bif ((decide (((List.length a3) + (List.length x7)) ≤ LIM)) && (decide ((((List.length a3) + (List.length x7)) * 1) ≤ LIM))) then
      call (.s1 a0 a1 (IntKind.wrap .i64 (a2 + (1 : Int))) (a3 ++ x7))
     else
      none
    else
     none
  else
   K0 (bytesOf a3)
noncomputable def f125 (m : Nat) (a0 : Int) (a1 : Int) (K0 : List UInt8 → Option R) : Option R := iter (f125.step m K0) m (.s0 a0 a1)
noncomputable def f125.pc (m : Nat) (other : Con R) : Con R := pcon [.p (.dat (.int .u64)), .p (.dat (.int .i64))] [] (fun x y K => f125 m (x.1) (x.2.1) (fun r0 => K (.pv .str r0) [])) other
noncomputable def f125.ct (m : Nat) (f : Nat) : Option (List Mode × Con R) := match f with
  | _ => none
theorem f125.seg (m : Nat) : Seg (f125.ct (R := R) m) f125.C 0 Tryz.f125 (some [some .str]) f125.todo f125.fr f125.hp (fun K => f125.step m (fun r0 => K (.pv .str r0) [])) := fun K call s => by cases s <;> kernel_rfl
theorem f125.ctok (hl : Laid G H0) (m : Nat) : CtOk G H0 (f125.ct (R := R) m) := fun f ms F h => nomatch h
theorem f125.ok (hl : Laid G H0) (m : Nat) {other : Con R} (ho : FOk Tryz.prog G H0 125 other) : FOk Tryz.prog G H0 125 (f125.pc m other) :=
  seg_ok (c := bodyOf Tryz.f125) (by kernel_rfl) (by kernel_rfl) ho (f125.ctok hl m) m (f125.seg m) (fun x y => .s0 (x.1) (x.2.1)) (fun x y K => by kernel_rfl) fun _ _ _ => rfl

noncomputable def f152.C : Cuts := ⟨(fun q => match q with
  | _ => none), (fun _ => none)⟩
inductive f152.St where
  | s0 (a0 : Int) (a1 : Int)
noncomputable def f152.todo : f152.St → List Item
  | .s0 _ _ => [.code (bodyOf Tryz.f152)]
noncomputable def f152.fr : f152.St → List SV
  | .s0 a0 a1 => .ptr 0 0 :: ud 13 []
noncomputable def f152.hp : f152.St → List Blk
  | .s0 a0 a1 => [.box [.nils, .pv (.int .u64) a0, .pv (.int .i64) a1] 110]
noncomputable def f152.step (m : Nat) (K0 : Int → Int → Option R) (K1 : Int → Int → List Int → Option R) (call : f152.St → Option R) : f152.St → Option R
  | .s0 a0 a1 => 
  bif (decide ((0 : Int) < a1)) then
   f82 m (0 : Int) (IntKind.wrap .i64 ((8 : Int) - a1)) a0 a1 (fun (r2 : Int) (r3 : Int) =>
    K0 r2 r3) (fun (r4 : Int) (r5 : Int) (r6 : List Int) =>
    K1 r4 r5 r6)
  else
   K0 a0 a1
noncomputable def f152 (m : Nat) (a0 : Int) (a1 : Int) (K0 : Int → Int → Option R) (K1 : Int → Int → List Int → Option R) : Option R := iter (f152.step m K0 K1) m (.s0 a0 a1)
noncomputable def f152.pc (m : Nat) (other : Con R) : Con R := pcon [.p (.ptr 0 0)] [.box [.nils, .dat (.int .u64), .dat (.int .i64)] 110] (fun x y K => f152 m (y.1.2.1) (y.1.2.2.1) (fun r0 r1 => K (.tup []) [.box [.nils, .pv (.int .u64) r0, .pv (.int .i64) r1] 110]) (fun r0 r1 r2 => K (.tup []) [.box [.sl 1 none, .pv (.int .u64) r0, .pv (.int .i64) r1] 110, .row (.int .u8) r2 5 true])) other
noncomputable def f152.ct (m : Nat) (f : Nat) : Option (List Mode × Con R) := match f with
  | 82 => some ([.own, .bor, .bor], (f82.pc m ncon))
  | _ => none
theorem f152.seg (m : Nat) : Seg (f152.ct (R := R) m) f152.C 1 Tryz.f152 (some []) f152.todo f152.fr f152.hp (fun K => f152.step m (fun r0 r1 => K (.tup []) [.box [.nils, .pv (.int .u64) r0, .pv (.int .i64) r1] 110]) (fun r0 r1 r2 => K (.tup []) [.box [.sl 1 none, .pv (.int .u64) r0, .pv (.int .i64) r1] 110, .row (.int .u8) r2 5 true])) := fun K call s => by cases s <;> kernel_rfl
theorem f152.ctok (hl : Laid G H0) (m : Nat) : CtOk G H0 (f152.ct (R := R) m) := by
  intro f ms F h
  unfold f152.ct at h
  split at h
  · exact ctk h pl82 (f82.ok hl m (ncon_ok _))
  · cases h
theorem f152.ok (hl : Laid G H0) (m : Nat) {other : Con R} (ho : FOk Tryz.prog G H0 152 other) : FOk Tryz.prog G H0 152 (f152.pc m other) :=
  seg_ok (c := bodyOf Tryz.f152) (by kernel_rfl) (by kernel_rfl) ho (f152.ctok hl m) m (f152.seg m) (fun x y => .s0 (y.1.2.1) (y.1.2.2.1)) (fun x y K => by kernel_rfl) fun _ _ _ => rfl

noncomputable def f124.C : Cuts := ⟨(fun q => match q with
  | _ => none), (fun _ => none)⟩
inductive f124.St where
  | s0 (a0 : List UInt8) (a1 : Int) (a2 : Int)
noncomputable def f124.todo : f124.St → List Item
  | .s0 _ _ _ => [.code (bodyOf Tryz.f124)]
noncomputable def f124.fr : f124.St → List SV
  | .s0 a0 a1 a2 => .ptr 0 0 :: .pv .str a0 :: ud 13 []
noncomputable def f124.hp : f124.St → List Blk
  | .s0 a0 a1 a2 => [.box [.nils, .pv (.int .u64) a1, .pv (.int .i64) a2] 110]
noncomputable def f124.step (m : Nat) (K0 : Int → Int → List Int → Option R) (call : f124.St → Option R) : f124.St → Option R
  | .s0 a0 a1 a2 => 
  f152 m a1 a2 (fun (r1 : Int) (r2 : Int) =>
   bif ((decide ((List.length (List.map (fun (b : UInt8) => ((UInt8.toNat b : Nat) : Int)) a0)) ≤ LIM)) && (decide (((List.length (List.map (fun (b : UInt8) => ((UInt8.toNat b : Nat) : Int)) a0)) * 1) ≤ LIM))) then
    K0 r1 r2 (List.map (fun (b : UInt8) => ((UInt8.toNat b : Nat) : Int)) a0)
   else
    none) (fun (r4 : Int) (r5 : Int) (r6 : List Int) =>
   bif ((decide (((List.length r6) + (List.length (List.map (fun (b : UInt8) => ((UInt8.toNat b : Nat) : Int)) a0))) ≤ LIM)) && (decide ((((List.length r6) + (List.length (List.map (fun (b : UInt8) => ((UInt8.toNat b : Nat) : Int)) a0))) * 1) ≤ LIM))) then
    K0 r4 r5 (r6 ++ (List.map (fun (b : UInt8) => ((UInt8.toNat b : Nat) : Int)) a0))
   else
    none)
noncomputable def f124 (m : Nat) (a0 : List UInt8) (a1 : Int) (a2 : Int) (K0 : Int → Int → List Int → Option R) : Option R := iter (f124.step m K0) m (.s0 a0 a1 a2)
noncomputable def f124.pc (m : Nat) (other : Con R) : Con R := pcon [.p (.ptr 0 0), .p (.dat .str)] [.box [.nils, .dat (.int .u64), .dat (.int .i64)] 110] (fun x y K => f124 m (x.2.1) (y.1.2.1) (y.1.2.2.1) (fun r0 r1 r2 => K (.tup []) [.box [.sl 1 none, .pv (.int .u64) r0, .pv (.int .i64) r1] 110, .row (.int .u8) r2 5 true])) other
noncomputable def f124.ct (m : Nat) (f : Nat) : Option (List Mode × Con R) := match f with
  | 152 => some ([.own], (f152.pc m ncon))
  | _ => none
theorem f124.seg (m : Nat) : Seg (f124.ct (R := R) m) f124.C 1 Tryz.f124 (some []) f124.todo f124.fr f124.hp (fun K => f124.step m (fun r0 r1 r2 => K (.tup []) [.box [.sl 1 none, .pv (.int .u64) r0, .pv (.int .i64) r1] 110, .row (.int .u8) r2 5 true])) := fun K call s => by cases s <;> kernel_rfl
theorem pl152 : Plain Tryz.prog 152 := ⟨Tryz.f152, by kernel_rfl, by kernel_rfl, by kernel_rfl⟩
theorem f124.ctok (hl : Laid G H0) (m : Nat) : CtOk G H0 (f124.ct (R := R) m) := by
  intro f ms F h
  unfold f124.ct at h
  split at h
  · exact ctk h pl152 (f152.ok hl m (ncon_ok _))
  · cases h
theorem f124.ok (hl : Laid G H0) (m : Nat) {other : Con R} (ho : FOk Tryz.prog G H0 124 other) : FOk Tryz.prog G H0 124 (f124.pc m other) :=
  seg_ok (c := bodyOf Tryz.f124) (by kernel_rfl) (by kernel_rfl) ho (f124.ctok hl m) m (f124.seg m) (fun x y => .s0 (x.2.1) (y.1.2.1) (y.1.2.2.1)) (fun x y K => by kernel_rfl) fun _ _ _ => rfl

noncomputable def f152v2.C : Cuts := ⟨(fun q => match q with
  | _ => none), (fun _ => none)⟩
inductive f152v2.St where
  | s0 (a0 : Int) (a1 : Int) (a2 : List Int)
noncomputable def f152v2.todo : f152v2.St → List Item
  | .s0 _ _ _ => [.code (bodyOf Tryz.f152)]
noncomputable def f152v2.fr : f152v2.St → List SV
  | .s0 a0 a1 a2 => .ptr 0 0 :: ud 13 []
noncomputable def f152v2.hp : f152v2.St → List Blk
  | .s0 a0 a1 a2 => [.box [.sl 1 none, .pv (.int .u64) a0, .pv (.int .i64) a1] 110, .row (.int .u8) a2 5 true]
noncomputable def f152v2.step (m : Nat) (K0 : Int → Int → List Int → Option R) (K1 : Int → Int → List Int → Option R) (call : f152v2.St → Option R) : f152v2.St → Option R
  | .s0 a0 a1 a2 => 
  bif (decide ((0 : Int) < a1)) then
   f82v2 m (0 : Int) (IntKind.wrap .i64 ((8 : Int) - a1)) a0 a1 a2 (fun (r2 : Int) (r3 : Int) (r4 : List Int) =>
    K0 r2 r3 r4) (fun (r5 : Int) (r6 : Int) (r7 : List Int) =>
    K1 r5 r6 r7)
  else
   K0 a0 a1 a2
noncomputable def f152v2 (m : Nat) (a0 : Int) (a1 : Int) (a2 : List Int) (K0 : Int → Int → List Int → Option R) (K1 : Int → Int → List Int → Option R) : Option R := iter (f152v2.step m K0 K1) m (.s0 a0 a1 a2)
noncomputable def f152v2.pc (m : Nat) (other : Con R) : Con R := pcon [.p (.ptr 0 0)] [.box [.sl 1, .dat (.int .u64), .dat (.int .i64)] 110, .row (.int .u8) 5 true] (fun x y K => f152v2 m (y.1.2.1) (y.1.2.2.1) (y.2.1) (fun r0 r1 r2 => K (.tup []) [.box [.sl 1 none, .pv (.int .u64) r0, .pv (.int .i64) r1] 110, .row (.int .u8) r2 5 true]) (fun r0 r1 r2 => K (.tup []) [.box [.sl 2 none, .pv (.int .u64) r0, .pv (.int .i64) r1] 110, .dead, .row (.int .u8) r2 5 true])) other
noncomputable def f152v2.ct (m : Nat) (f : Nat) : Option (List Mode × Con R) := match f with
  | 82 => some ([.own, .bor, .bor], (f82v2.pc m ncon))
  | _ => none
theorem f152v2.seg (m : Nat) : Seg (f152v2.ct (R := R) m) f152v2.C 2 Tryz.f152 (some []) f152v2.todo f152v2.fr f152v2.hp (fun K => f152v2.step m (fun r0 r1 r2 => K (.tup []) [.box [.sl 1 none, .pv (.int .u64) r0, .pv (.int .i64) r1] 110, .row (.int .u8) r2 5 true]) (fun r0 r1 r2 => K (.tup []) [.box [.sl 2 none, .pv (.int .u64) r0, .pv (.int .i64) r1] 110, .dead, .row (.int .u8) r2 5 true])) := fun K call s => by cases s <;> kernel_rfl
theorem f152v2.ctok (hl : Laid G H0) (m : Nat) : CtOk G H0 (f152v2.ct (R := R) m) := by
  intro f ms F h
  unfold f152v2.ct at h
  split at h
  · exact ctk h pl82 (f82v2.ok hl m (ncon_ok _))
  · cases h
theorem f152v2.ok (hl : Laid G H0) (m : Nat) {other : Con R} (ho : FOk Tryz.prog G H0 152 other) : FOk Tryz.prog G H0 152 (f152v2.pc m other) :=
  seg_ok (c := bodyOf Tryz.f152) (by kernel_rfl) (by kernel_rfl) ho (f152v2.ctok hl m) m (f152v2.seg m) (fun x y => .s0 (y.1.2.1) (y.1.2.2.1) (y.2.1)) (fun x y K => by kernel_rfl) fun _ _ _ => rfl

noncomputable def f124v2.C : Cuts := ⟨(fun q => match q with
  | _ => none), (fun _ => none)⟩
inductive f124v2.St where
  | s0 (a0 : List UInt8) (a1 : Int) (a2 : Int) (a3 : List Int)
noncomputable def f124v2.todo : f124v2.St → List Item
  | .s0 _ _ _ _ => [.code (bodyOf Tryz.f124)]
noncomputable def f124v2.fr : f124v2.St → List SV
  | .s0 a0 a1 a2 a3 => .ptr 0 0 :: .pv .str a0 :: ud 13 []
noncomputable def f124v2.hp : f124v2.St → List Blk
  | .s0 a0 a1 a2 a3 => [.box [.sl 1 none, .pv (.int .u64) a1, .pv (.int .i64) a2] 110, .row (.int .u8) a3 5 true]
noncomputable def f124v2.step (m : Nat) (K0 : Int → Int → List Int → Option R) (call : f124v2.St → Option R) : f124v2.St → Option R
  | .s0 a0 a1 a2 a3 => 
  f152v2 m a1 a2 a3 (fun (r1 : Int) (r2 : Int) (r3 : List Int) =>
   bif ((decide (((List.length r3) + (List.length (List.map (fun (b : UInt8) => ((UInt8.toNat b : Nat) : Int)) a0))) ≤ LIM)) && (decide ((((List.length r3) + (List.length (List.map (fun (b : UInt8) => ((UInt8.toNat b : Nat) : Int)) a0))) * 1) ≤ LIM))) then
    K0 r1 r2 (r3 ++ (List.map (fun (b : UInt8) => ((UInt8.toNat b : Nat) : Int)) a0))
   else
    none) (fun (r5 : Int) (r6 : Int) (r7 : List Int) =>
   bif ((decide (((List.length r7) + (List.length (List.map (fun (b : UInt8) => ((UInt8.toNat b : Nat) : Int)) a0))) ≤ LIM)) && (decide ((((List.length r7) + (List.length (List.map (fun (b : UInt8) => ((UInt8.toNat b : Nat) : Int)) a0))) * 1) ≤ LIM))) then
    K0 r5 r6 (r7 ++ (List.map (fun (b : UInt8) => ((UInt8.toNat b : Nat) : Int)) a0))
   else
    none)
noncomputable def f124v2 (m : Nat) (a0 : List UInt8) (a1 : Int) (a2 : Int) (a3 : List Int) (K0 : Int → Int → List Int → Option R) : Option R := iter (f124v2.step m K0) m (.s0 a0 a1 a2 a3)
noncomputable def f124v2.pc (m : Nat) (other : Con R) : Con R := pcon [.p (.ptr 0 0), .p (.dat .str)] [.box [.sl 1, .dat (.int .u64), .dat (.int .i64)] 110, .row (.int .u8) 5 true] (fun x y K => f124v2 m (x.2.1) (y.1.2.1) (y.1.2.2.1) (y.2.1) (fun r0 r1 r2 => K (.tup []) [.box [.sl 2 none, .pv (.int .u64) r0, .pv (.int .i64) r1] 110, .dead, .row (.int .u8) r2 5 true])) other
noncomputable def f124v2.ct (m : Nat) (f : Nat) : Option (List Mode × Con R) := match f with
  | 152 => some ([.own], (f152v2.pc m ncon))
  | _ => none
theorem f124v2.seg (m : Nat) : Seg (f124v2.ct (R := R) m) f124v2.C 2 Tryz.f124 (some []) f124v2.todo f124v2.fr f124v2.hp (fun K => f124v2.step m (fun r0 r1 r2 => K (.tup []) [.box [.sl 2 none, .pv (.int .u64) r0, .pv (.int .i64) r1] 110, .dead, .row (.int .u8) r2 5 true])) := fun K call s => by cases s <;> kernel_rfl
theorem f124v2.ctok (hl : Laid G H0) (m : Nat) : CtOk G H0 (f124v2.ct (R := R) m) := by
  intro f ms F h
  unfold f124v2.ct at h
  split at h
  · exact ctk h pl152 (f152v2.ok hl m (ncon_ok _))
  · cases h
theorem f124v2.ok (hl : Laid G H0) (m : Nat) {other : Con R} (ho : FOk Tryz.prog G H0 124 other) : FOk Tryz.prog G H0 124 (f124v2.pc m other) :=
  seg_ok (c := bodyOf Tryz.f124) (by kernel_rfl) (by kernel_rfl) ho (f124v2.ctok hl m) m (f124v2.seg m) (fun x y => .s0 (x.2.1) (y.1.2.1) (y.1.2.2.1) (y.2.1)) (fun x y K => by kernel_rfl) fun _ _ _ => rfl

noncomputable def f89.C : Cuts := ⟨(fun q => match q with
  | 2 => some { live := [0, 3], adopt := [(3, [0], (.int .u8), 5)] }
  | 6 => some { live := [0, 3, 4, 5], adopt := [] }
  | 7 => some { live := [0, 3, 4, 5], adopt := [] }
  | _ => none), (fun _ => none)⟩
inductive f89.St where
  | s0 (a0 : List UInt8)
  | s1 (a0 : List UInt8) (a1 : Int) (a2 : Int) (a3 : List Int)
  | s2 (a0 : List UInt8) (a1 : Int) (a2 : Int) (a3 : Int) (a4 : Int) (a5 : List Int)
  | s3 (a0 : List UInt8) (a1 : Int) (a2 : Int) (a3 : Int) (a4 : Int) (a5 : List Int)
noncomputable def f89.todo : f89.St → List Item
  | .s0 _ => [.code (bodyOf Tryz.f89)]
  | .s1 _ _ _ _ => atBef Tryz.f89 2
  | .s2 _ _ _ _ _ _ => atBef Tryz.f89 6
  | .s3 _ _ _ _ _ _ => atBef Tryz.f89 7
noncomputable def f89.fr : f89.St → List SV
  | .s0 a0 => .pv .str a0 :: ud 33 []
  | .s1 a0 a1 a2 a3 => .pv .str a0 :: .dead :: .dead :: .ptr 0 0 :: dd 30 []
  | .s2 a0 a1 a2 a3 a4 a5 => .pv .str a0 :: .dead :: .dead :: .ptr 0 0 :: .pv (.int .i64) a1 :: .pv (.int .u32) a2 :: dd 28 []
  | .s3 a0 a1 a2 a3 a4 a5 => .pv .str a0 :: .dead :: .dead :: .ptr 0 0 :: .pv (.int .i64) a1 :: .pv (.int .u32) a2 :: dd 28 []
noncomputable def f89.hp : f89.St → List Blk
  | .s0 a0 => []
  | .s1 a0 a1 a2 a3 => [.box [.sl 1 none, .pv (.int .u64) a1, .pv (.int .i64) a2] 110, .row (.int .u8) a3 5 true]
  | .s2 a0 a1 a2 a3 a4 a5 => [.box [.sl 1 none, .pv (.int .u64) a3, .pv (.int .i64) a4] 110, .row (.int .u8) a5 5 true]
  | .s3 a0 a1 a2 a3 a4 a5 => [.box [.sl 1 none, .pv (.int .u64) a3, .pv (.int .i64) a4] 110, .row (.int .u8) a5 5 true]
noncomputable def f89.step (m : Nat) (K0 : List UInt8 → Option R) (call : f89.St → Option R) : f89.St → Option R
  | .s0 a0 => 
  call (.s1 a0 (0 : Int) (0 : Int) ([] : List Int))
  | .s1 a0 a1 a2 a3 => 
  let x1 : Int := if (65535 : Int) < (((List.length a0) : Nat) : Int) then (65535 : Int) else (((List.length a0) : Nat) : Int)
  bif (decide (x1 = (((List.length a0) : Nat) : Int))) then
   call (.s2 a0 x1 (1 : Int) a1 a2 a3)
  else
   call (.s2 a0 x1 (0 : Int) a1 a2 a3)
  | .s2 a0 a1 a2 a3 a4 a5 => 
  f82v2 m a2 (3 : Int) a3 a4 a5 (fun (r1 : Int) (r2 : Int) (r3 : List Int) =>
   call (.s3 a0 a1 a2 r1 r2 r3)) (fun (r4 : Int) (r5 : Int) (r6 : List Int) =>
   call (.s3 a0 a1 a2 r4 r5 r6))
  | .s3 a0 a1 a2 a3 a4 a5 => 
  f125 m (IntKind.wrap .u64 a1) (2 : Int) (fun (r2 : List UInt8) =>
   f125 m (IntKind.wrap .u64 (ibits .xor .i64 a1 (65535 : Int))) (2 : Int) (fun (r5 : List UInt8) =>
    bif (decide (((List.length r2) + (List.length r5)) ≤ LIM)) then
     let x6 : List UInt8 := r2 ++ r5
     bif (leB a1 (List.length a0)) then
      let x7 : List UInt8 := List.take (Int.toNat a1) a0
      bif (decide (((List.length x6) + (List.length x7)) ≤ LIM)) then
       f124v2 m (x6 ++ x7) a3 a4 a5 (fun (r9 : Int) (r10 : Int) (r11 : List Int) =>
        bif (leB a1 (List.length a0)) then
         bif (decide (a2 = (1 : Int))) then
          f88 m (some (r11, (r9, r10))) (fun (r13 : List UInt8) =>
           K0 r13)
         else
          call (.s1 (List.drop (Int.toNat a1) a0) r9 r10 r11)
        else
         none)
      else
       none
     else
      none
    else
     none))
noncomputable def f89 (m : Nat) (a0 : List UInt8) (K0 : List UInt8 → Option R) : Option R := iter (f89.step m K0) m (.s0 a0)
noncomputable def f89.pc (m : Nat) (other : Con R) : Con R := pcon [.p (.dat .str)] [] (fun x y K => f89 m (x.1) (fun r0 => K (.pv .str r0) [])) other
noncomputable def f89.ct (m : Nat) (f : Nat) : Option (List Mode × Con R) := match f with
  | 82 => some ([.own, .bor, .bor], (f82v2.pc m ncon))
  | 125 => some ([.bor, .bor], (f125.pc m ncon))
  | 124 => some ([.own, .bor], (f124v2.pc m ncon))
  | 88 => some ([.bor], (f88.pc m ncon))
  | _ => none
theorem f89.seg (m : Nat) : Seg (f89.ct (R := R) m) f89.C 0 Tryz.f89 (some [some .str]) f89.todo f89.fr f89.hp (fun K => f89.step m (fun r0 => K (.pv .str r0) [])) := fun K call s => by cases s <;> kernel_rfl
theorem pl125 : Plain Tryz.prog 125 := ⟨Tryz.f125, by kernel_rfl, by kernel_rfl, by kernel_rfl⟩
theorem pl124 : Plain Tryz.prog 124 := ⟨Tryz.f124, by kernel_rfl, by kernel_rfl, by kernel_rfl⟩
theorem pl88 : Plain Tryz.prog 88 := ⟨Tryz.f88, by kernel_rfl, by kernel_rfl, by kernel_rfl⟩
theorem f89.ctok (hl : Laid G H0) (m : Nat) : CtOk G H0 (f89.ct (R := R) m) := by
  intro f ms F h
  unfold f89.ct at h
  split at h
  · exact ctk h pl82 (f82v2.ok hl m (ncon_ok _))
  · exact ctk h pl125 (f125.ok hl m (ncon_ok _))
  · exact ctk h pl124 (f124v2.ok hl m (ncon_ok _))
  · exact ctk h pl88 (f88.ok hl m (ncon_ok _))
  · cases h
theorem f89.ok (hl : Laid G H0) (m : Nat) {other : Con R} (ho : FOk Tryz.prog G H0 89 other) : FOk Tryz.prog G H0 89 (f89.pc m other) :=
  seg_ok (c := bodyOf Tryz.f89) (by kernel_rfl) (by kernel_rfl) ho (f89.ctok hl m) m (f89.seg m) (fun x y => .s0 (x.1)) (fun x y K => by kernel_rfl) fun _ _ _ => rfl

end Go.AM
set_option linter.unusedVariables false
set_option maxRecDepth 100000
namespace Go.AM
open Go.Proofs
variable {R : Type} {G : Nat} {H0 : Array Obj}
noncomputable def f86.C : Cuts := ⟨(fun q => match q with
  | _ => none), (fun _ => none)⟩
inductive f86.St where
  | s0 (a0 : Int)
noncomputable def f86.todo : f86.St → List Item
  | .s0 _ => [.code (bodyOf Tryz.f86)]
noncomputable def f86.fr : f86.St → List SV
  | .s0 a0 => .pv (.int .i64) a0 :: ud 20 []
noncomputable def f86.hp : f86.St → List Blk
  | .s0 a0 => []
noncomputable def f86.step (m : Nat) (K0 : Int → Int → Option R) (call : f86.St → Option R) : f86.St → Option R
  | .s0 a0 => 
  bif (decide (a0 = (28 : Int))) then
   K0 (258 : Int) (0 : Int)
  else
   bif (decide (a0 < (8 : Int))) then
    K0 (IntKind.wrap .i64 ((3 : Int) + a0)) (0 : Int)
   else
    let x3 : Int := IntKind.wrap .i64 ((IntKind.wrap .i64 (Int.tdiv a0 (4 : Int))) - (1 : Int))
    bif (decide ((0 : Int) ≤ x3)) then
     K0 (IntKind.wrap .i64 ((3 : Int) + (IntKind.wrap .i64 ((IntKind.wrap .i64 ((4 : Int) + (Int.tmod a0 (4 : Int)))) * ((2 : Int) ^ (min (Int.toNat x3) 64)))))) x3
    else
     none
noncomputable def f86 (m : Nat) (a0 : Int) (K0 : Int → Int → Option R) : Option R := iter (f86.step m K0) m (.s0 a0)
noncomputable def f86.pc (m : Nat) (other : Con R) : Con R := pcon [.p (.dat (.int .i64))] [] (fun x y K => f86 m (x.1) (fun r0 r1 => K (.tup [.pv (.int .i64) r0, .pv (.int .i64) r1]) [])) other
noncomputable def f86.ct (m : Nat) (f : Nat) : Option (List Mode × Con R) := match f with
  | _ => none
theorem f86.seg (m : Nat) : Seg (f86.ct (R := R) m) f86.C 0 Tryz.f86 (some [some (.int .i64), some (.int .i64)]) f86.todo f86.fr f86.hp (fun K => f86.step m (fun r0 r1 => K (.tup [.pv (.int .i64) r0, .pv (.int .i64) r1]) [])) := fun K call s => by cases s <;> kernel_rfl
theorem f86.ctok (hl : Laid G H0) (m : Nat) : CtOk G H0 (f86.ct (R := R) m) := fun f ms F h => nomatch h
theorem f86.ok (hl : Laid G H0) (m : Nat) {other : Con R} (ho : FOk Tryz.prog G H0 86 other) : FOk Tryz.prog G H0 86 (f86.pc m other) :=
  seg_ok (c := bodyOf Tryz.f86) (by kernel_rfl) (by kernel_rfl) ho (f86.ctok hl m) m (f86.seg m) (fun x y => .s0 (x.1)) (fun x y K => by kernel_rfl) fun _ _ _ => rfl

noncomputable def f85.C : Cuts := ⟨(fun q => match q with
  | 3 => some { live := [0, 2, 9], adopt := [] }
  | _ => none), (fun _ => none)⟩
inductive f85.St where
  | s0 (a0 : Int) (a1 : Int)
  | s1 (a0 : Int) (a1 : Int)
noncomputable def f85.todo : f85.St → List Item
  | .s0 _ _ => [.code (bodyOf Tryz.f85)]
  | .s1 _ _ => atBef Tryz.f85 3
noncomputable def f85.fr : f85.St → List SV
  | .s0 a0 a1 => .pv (.int .i64) a0 :: .pv (.int .i64) a1 :: .fn 86 [] :: ud 27 []
  | .s1 a0 a1 => .pv (.int .i64) a0 :: .dead :: .fn 86 [] :: dd 6 (.pv (.int .i64) a1 :: dd 20 [])
noncomputable def f85.hp : f85.St → List Blk
  | .s0 a0 a1 => []
  | .s1 a0 a1 => []
noncomputable def f85.step (m : Nat) (K0 : Int → Int → Int → Option R) (call : f85.St → Option R) : f85.St → Option R
  | .s0 a0 a1 => 
  call (.s1 a0 a1)
  | .s1 a0 a1 => 
  f86 m a1 (fun (r1 : Int) (r2 : Int) =>
   bif (decide (r1 ≤ a0)) then
    K0 a1 (IntKind.wrap .u32 (IntKind.wrap .i64 (a0 - r1))) r2
   else
    call (.s1 a0 (IntKind.wrap .i64 (a1 - (1 : Int)))))
noncomputable def f85 (m : Nat) (a0 : Int) (a1 : Int) (K0 : Int → Int → Int → Option R) : Option R := iter (f85.step m K0) m (.s0 a0 a1)
noncomputable def f85.pc (m : Nat) (other : Con R) : Con R := pcon [.p (.dat (.int .i64)), .p (.dat (.int .i64)), .fn 86 []] [] (fun x y K => f85 m (x.1) (x.2.1) (fun r0 r1 r2 => K (.tup [.pv (.int .i64) r0, .pv (.int .u32) r1, .pv (.int .i64) r2]) [])) other
noncomputable def f85.ct (m : Nat) (f : Nat) : Option (List Mode × Con R) := match f with
  | 86 => some ([.bor], (f86.pc m ncon))
  | _ => none
theorem f85.seg (m : Nat) : Seg (f85.ct (R := R) m) f85.C 0 Tryz.f85 (some [some (.int .i64), some (.int .u32), some (.int .i64)]) f85.todo f85.fr f85.hp (fun K => f85.step m (fun r0 r1 r2 => K (.tup [.pv (.int .i64) r0, .pv (.int .u32) r1, .pv (.int .i64) r2]) [])) := fun K call s => by cases s <;> kernel_rfl
theorem pl86 : Plain Tryz.prog 86 := ⟨Tryz.f86, by kernel_rfl, by kernel_rfl, by kernel_rfl⟩
theorem f85.ctok (hl : Laid G H0) (m : Nat) : CtOk G H0 (f85.ct (R := R) m) := by
  intro f ms F h
  unfold f85.ct at h
  split at h
  · exact ctk h pl86 (f86.ok hl m (ncon_ok _))
  · cases h
theorem f85.ok (hl : Laid G H0) (m : Nat) {other : Con R} (ho : FOk Tryz.prog G H0 85 other) : FOk Tryz.prog G H0 85 (f85.pc m other) :=
  seg_ok (c := bodyOf Tryz.f85) (by kernel_rfl) (by kernel_rfl) ho (f85.ctok hl m) m (f85.seg m) (fun x y => .s0 (x.1) (x.2.1)) (fun x y K => by kernel_rfl) fun _ _ _ => rfl

noncomputable def f87.C : Cuts := ⟨(fun q => match q with
  | _ => none), (fun _ => none)⟩
inductive f87.St where
  | s0 (a0 : Int)
noncomputable def f87.todo : f87.St → List Item
  | .s0 _ => [.code (bodyOf Tryz.f87)]
noncomputable def f87.fr : f87.St → List SV
  | .s0 a0 => .pv (.int .i64) a0 :: ud 18 []
noncomputable def f87.hp : f87.St → List Blk
  | .s0 a0 => []
noncomputable def f87.step (m : Nat) (K0 : Int → Int → Option R) (call : f87.St → Option R) : f87.St → Option R
  | .s0 a0 => 
  bif (decide (a0 < (4 : Int))) then
   K0 (IntKind.wrap .i64 ((1 : Int) + a0)) (0 : Int)
  else
   let x3 : Int := IntKind.wrap .i64 ((IntKind.wrap .i64 (Int.tdiv a0 (2 : Int))) - (1 : Int))
   bif (decide ((0 : Int) ≤ x3)) then
    K0 (IntKind.wrap .i64 ((1 : Int) + (IntKind.wrap .i64 ((IntKind.wrap .i64 ((2 : Int) + (Int.tmod a0 (2 : Int)))) * ((2 : Int) ^ (min (Int.toNat x3) 64)))))) x3
   else
    none
noncomputable def f87 (m : Nat) (a0 : Int) (K0 : Int → Int → Option R) : Option R := iter (f87.step m K0) m (.s0 a0)
noncomputable def f87.pc (m : Nat) (other : Con R) : Con R := pcon [.p (.dat (.int .i64))] [] (fun x y K => f87 m (x.1) (fun r0 r1 => K (.tup [.pv (.int .i64) r0, .pv (.int .i64) r1]) [])) other
noncomputable def f87.ct (m : Nat) (f : Nat) : Option (List Mode × Con R) := match f with
  | _ => none
theorem f87.seg (m : Nat) : Seg (f87.ct (R := R) m) f87.C 0 Tryz.f87 (some [some (.int .i64), some (.int .i64)]) f87.todo f87.fr f87.hp (fun K => f87.step m (fun r0 r1 => K (.tup [.pv (.int .i64) r0, .pv (.int .i64) r1]) [])) := fun K call s => by cases s <;> kernel_rfl
theorem f87.ctok (hl : Laid G H0) (m : Nat) : CtOk G H0 (f87.ct (R := R) m) := fun f ms F h => nomatch h
theorem f87.ok (hl : Laid G H0) (m : Nat) {other : Con R} (ho : FOk Tryz.prog G H0 87 other) : FOk Tryz.prog G H0 87 (f87.pc m other) :=
  seg_ok (c := bodyOf Tryz.f87) (by kernel_rfl) (by kernel_rfl) ho (f87.ctok hl m) m (f87.seg m) (fun x y => .s0 (x.1)) (fun x y K => by kernel_rfl) fun _ _ _ => rfl

noncomputable def f85v2.C : Cuts := ⟨(fun q => match q with
  | 3 => some { live := [0, 2, 9], adopt := [] }
  | _ => none), (fun _ => none)⟩
inductive f85v2.St where
  | s0 (a0 : Int) (a1 : Int)
  | s1 (a0 : Int) (a1 : Int)
noncomputable def f85v2.todo : f85v2.St → List Item
  | .s0 _ _ => [.code (bodyOf Tryz.f85)]
  | .s1 _ _ => atBef Tryz.f85 3
noncomputable def f85v2.fr : f85v2.St → List SV
  | .s0 a0 a1 => .pv (.int .i64) a0 :: .pv (.int .i64) a1 :: .fn 87 [] :: ud 27 []
  | .s1 a0 a1 => .pv (.int .i64) a0 :: .dead :: .fn 87 [] :: dd 6 (.pv (.int .i64) a1 :: dd 20 [])
noncomputable def f85v2.hp : f85v2.St → List Blk
  | .s0 a0 a1 => []
  | .s1 a0 a1 => []
noncomputable def f85v2.step (m : Nat) (K0 : Int → Int → Int → Option R) (call : f85v2.St → Option R) : f85v2.St → Option R
  | .s0 a0 a1 => 
  call (.s1 a0 a1)
  | .s1 a0 a1 => 
  f87 m a1 (fun (r1 : Int) (r2 : Int) =>
   bif (decide (r1 ≤ a0)) then
    K0 a1 (IntKind.wrap .u32 (IntKind.wrap .i64 (a0 - r1))) r2
   else
    call (.s1 a0 (IntKind.wrap .i64 (a1 - (1 : Int)))))
noncomputable def f85v2 (m : Nat) (a0 : Int) (a1 : Int) (K0 : Int → Int → Int → Option R) : Option R := iter (f85v2.step m K0) m (.s0 a0 a1)
noncomputable def f85v2.pc (m : Nat) (other : Con R) : Con R := pcon [.p (.dat (.int .i64)), .p (.dat (.int .i64)), .fn 87 []] [] (fun x y K => f85v2 m (x.1) (x.2.1) (fun r0 r1 r2 => K (.tup [.pv (.int .i64) r0, .pv (.int .u32) r1, .pv (.int .i64) r2]) [])) other
noncomputable def f85v2.ct (m : Nat) (f : Nat) : Option (List Mode × Con R) := match f with
  | 87 => some ([.bor], (f87.pc m ncon))
  | _ => none
theorem f85v2.seg (m : Nat) : Seg (f85v2.ct (R := R) m) f85v2.C 0 Tryz.f85 (some [some (.int .i64), some (.int .u32), some (.int .i64)]) f85v2.todo f85v2.fr f85v2.hp (fun K => f85v2.step m (fun r0 r1 r2 => K (.tup [.pv (.int .i64) r0, .pv (.int .u32) r1, .pv (.int .i64) r2]) [])) := fun K call s => by cases s <;> kernel_rfl
theorem pl87 : Plain Tryz.prog 87 := ⟨Tryz.f87, by kernel_rfl, by kernel_rfl, by kernel_rfl⟩
theorem f85v2.ctok (hl : Laid G H0) (m : Nat) : CtOk G H0 (f85v2.ct (R := R) m) := by
  intro f ms F h
  unfold f85v2.ct at h
  split at h
  · exact ctk h pl87 (f87.ok hl m (ncon_ok _))
  · cases h
theorem f85v2.ok (hl : Laid G H0) (m : Nat) {other : Con R} (ho : FOk Tryz.prog G H0 85 other) : FOk Tryz.prog G H0 85 (f85v2.pc m other) :=
  seg_ok (c := bodyOf Tryz.f85) (by kernel_rfl) (by kernel_rfl) ho (f85v2.ctok hl m) m (f85v2.seg m) (fun x y => .s0 (x.1) (x.2.1)) (fun x y K => by kernel_rfl) fun _ _ _ => rfl

noncomputable def f46.C : Cuts := ⟨(fun q => match q with
  | 6 => some { live := [0, 3, 4, 5, 6, 7], adopt := [(3, [0], (.int .u8), 5)] }
  | 11 => some { live := [0, 3, 4, 5, 6, 7, 8, 10], adopt := [] }
  | 14 => some { live := [0, 3, 4, 5, 6, 7, 8, 9], adopt := [] }
  | 18 => some { live := [0, 3, 4, 5, 6, 7], adopt := [] }
  | 22 => some { live := [0, 3, 4, 5, 6, 7, 8, 9, 15, 16], adopt := [] }
  | 30 => some { live := [0, 3], adopt := [] }
  | _ => none), (fun _ => none)⟩
inductive f46.St where
  | s0 (a0 : List UInt8)
  | s1 (a0 : List UInt8) (a1 : Option ((List Int × (List Int × List Int)))) (a2 : Option ((List Int × (List Int × List Int)))) (a3 : Int) (a4 : Int) (a5 : Int) (a6 : List (List UInt8 × Int)) (a7 : List Int)
  | s2 (a0 : List UInt8) (a1 : Option ((List Int × (List Int × List Int)))) (a2 : Option ((List Int × (List Int × List Int)))) (a3 : Int) (a4 : Int) (a5 : Int) (a6 : Int) (a7 : Int) (a8 : List (List UInt8 × Int)) (a9 : List Int)
  | s3 (a0 : List UInt8) (a1 : Option ((List Int × (List Int × List Int)))) (a2 : Option ((List Int × (List Int × List Int)))) (a3 : Int) (a4 : Int) (a5 : Int) (a6 : Int) (a7 : Int) (a8 : List (List UInt8 × Int)) (a9 : List Int)
  | s4 (a0 : List UInt8) (a1 : Option ((List Int × (List Int × List Int)))) (a2 : Option ((List Int × (List Int × List Int)))) (a3 : Int) (a4 : Int) (a5 : Int) (a6 : List (List UInt8 × Int)) (a7 : List Int)
  | s5 (a0 : List UInt8) (a1 : Int) (a2 : Int) (a3 : List Int)
  | s6 (a0 : List UInt8) (a1 : Option ((List Int × (List Int × List Int)))) (a2 : Option ((List Int × (List Int × List Int)))) (a3 : Int) (a4 : Int) (a5 : Int) (a6 : Int) (a7 : Int) (a8 : Int) (a9 : Int) (a10 : List (List UInt8 × Int)) (a11 : List Int)
noncomputable def f46.todo : f46.St → List Item
  | .s0 _ => [.code (bodyOf Tryz.f46)]
  | .s1 _ _ _ _ _ _ _ _ => atBef Tryz.f46 6
  | .s2 _ _ _ _ _ _ _ _ _ _ => atBef Tryz.f46 11
  | .s3 _ _ _ _ _ _ _ _ _ _ => atBef Tryz.f46 14
  | .s4 _ _ _ _ _ _ _ _ => atBef Tryz.f46 18
  | .s5 _ _ _ _ => atBef Tryz.f46 30
  | .s6 _ _ _ _ _ _ _ _ _ _ _ _ => atBef Tryz.f46 22
noncomputable def f46.fr : f46.St → List SV
  | .s0 a0 => .pv .str a0 :: ud 162 []
  | .s1 a0 a1 a2 a3 a4 a5 a6 a7 => .pv .str a0 :: .dead :: .dead :: .ptr 0 0 :: .pv (.ptr (.prod (.sl (.int .i64)) (.prod (.arr 16 (.int .i64)) (.sl (.int .i64))))) a1 :: .pv (.ptr (.prod (.sl (.int .i64)) (.prod (.arr 16 (.int .i64)) (.sl (.int .i64))))) a2 :: .mapr 1 :: .pv (.int .i64) a3 :: dd 155 []
  | .s2 a0 a1 a2 a3 a4 a5 a6 a7 a8 a9 => .pv .str a0 :: .dead :: .dead :: .ptr 0 0 :: .pv (.ptr (.prod (.sl (.int .i64)) (.prod (.arr 16 (.int .i64)) (.sl (.int .i64))))) a1 :: .pv (.ptr (.prod (.sl (.int .i64)) (.prod (.arr 16 (.int .i64)) (.sl (.int .i64))))) a2 :: .mapr 1 :: .pv (.int .i64) a3 :: .pv (.int .i64) a4 :: .dead :: .pv (.int .i64) a5 :: dd 152 []
  | .s3 a0 a1 a2 a3 a4 a5 a6 a7 a8 a9 => .pv .str a0 :: .dead :: .dead :: .ptr 0 0 :: .pv (.ptr (.prod (.sl (.int .i64)) (.prod (.arr 16 (.int .i64)) (.sl (.int .i64))))) a1 :: .pv (.ptr (.prod (.sl (.int .i64)) (.prod (.arr 16 (.int .i64)) (.sl (.int .i64))))) a2 :: .mapr 1 :: .pv (.int .i64) a3 :: .pv (.int .i64) a4 :: .pv (.int .i64) a5 :: dd 153 []
  | .s4 a0 a1 a2 a3 a4 a5 a6 a7 => .pv .str a0 :: .dead :: .dead :: .ptr 0 0 :: .pv (.ptr (.prod (.sl (.int .i64)) (.prod (.arr 16 (.int .i64)) (.sl (.int .i64))))) a1 :: .pv (.ptr (.prod (.sl (.int .i64)) (.prod (.arr 16 (.int .i64)) (.sl (.int .i64))))) a2 :: .mapr 1 :: .pv (.int .i64) a3 :: dd 155 []
  | .s5 a0 a1 a2 a3 => .pv .str a0 :: .dead :: .dead :: .ptr 0 0 :: dd 159 []
  | .s6 a0 a1 a2 a3 a4 a5 a6 a7 a8 a9 a10 a11 => .pv .str a0 :: .dead :: .dead :: .ptr 0 0 :: .pv (.ptr (.prod (.sl (.int .i64)) (.prod (.arr 16 (.int .i64)) (.sl (.int .i64))))) a1 :: .pv (.ptr (.prod (.sl (.int .i64)) (.prod (.arr 16 (.int .i64)) (.sl (.int .i64))))) a2 :: .mapr 1 :: .pv (.int .i64) a3 :: .pv (.int .i64) a4 :: .pv (.int .i64) a5 :: dd 5 (.pv (.int .u32) a6 :: .pv (.int .i64) a7 :: dd 146 [])
noncomputable def f46.hp : f46.St → List Blk
  | .s0 a0 => []
  | .s1 a0 a1 a2 a3 a4 a5 a6 a7 => [.box [.sl 2 none, .pv (.int .u64) a4, .pv (.int .i64) a5] 110, .map .str (.int .i64) a6, .row (.int .u8) a7 5 true]
  | .s2 a0 a1 a2 a3 a4 a5 a6 a7 a8 a9 => [.box [.sl 2 none, .pv (.int .u64) a6, .pv (.int .i64) a7] 110, .map .str (.int .i64) a8, .row (.int .u8) a9 5 true]
  | .s3 a0 a1 a2 a3 a4 a5 a6 a7 a8 a9 => [.box [.sl 2 none, .pv (.int .u64) a6, .pv (.int .i64) a7] 110, .map .str (.int .i64) a8, .row (.int .u8) a9 5 true]
  | .s4 a0 a1 a2 a3 a4 a5 a6 a7 => [.box [.sl 2 none, .pv (.int .u64) a4, .pv (.int .i64) a5] 110, .map .str (.int .i64) a6, .row (.int .u8) a7 5 true]
  | .s5 a0 a1 a2 a3 => [.box [.sl 1 none, .pv (.int .u64) a1, .pv (.int .i64) a2] 110, .row (.int .u8) a3 5 true]
  | .s6 a0 a1 a2 a3 a4 a5 a6 a7 a8 a9 a10 a11 => [.box [.sl 2 none, .pv (.int .u64) a8, .pv (.int .i64) a9] 110, .map .str (.int .i64) a10, .row (.int .u8) a11 5 true]
noncomputable def f46.step (m : Nat) (K0 : List UInt8 → Option R) (call : f46.St → Option R) : f46.St → Option R
  | .s0 a0 => 
  f81 m (fun (r1 : Option ((List Int × (List Int × List Int)))) (r2 : Option ((List Int × (List Int × List Int)))) =>
   f82 m (3 : Int) (3 : Int) (0 : Int) (0 : Int) (fun (r3 : Int) (r4 : Int) =>
    call (.s1 a0 r1 r2 (0 : Int) r3 r4 ([] : List (List UInt8 × Int)) ([] : List Int))) (fun (r5 : Int) (r6 : Int) (r7 : List Int) =>
    call (.s1 a0 r1 r2 (0 : Int) r5 r6 ([] : List (List UInt8 × Int)) r7)))
  | .s1 a0 a1 a2 a3 a4 a5 a6 a7 => 
  bif (decide (a3 < (((List.length a0) : Nat) : Int))) then
   bif (decide ((IntKind.wrap .i64 (a3 + (3 : Int))) ≤ (((List.length a0) : Nat) : Int))) then
    let x2 : Int := IntKind.wrap .i64 (a3 + (3 : Int))
    bif (leB x2 (List.length a0)) then
     bif (leB a3 (Int.toNat x2)) then
      let x3 : List UInt8 := List.drop (Int.toNat a3) (List.take (Int.toNat x2) a0)
      let x4 : Int := Option.getD (mget (fun (a b : List UInt8) => decide (a = b)) a6 x3) (0 : Int)
      bif (Option.isSome (mget (fun (a b : List UInt8) => decide (a = b)) a6 x3)) then
       bif (decide ((IntKind.wrap .i64 (a3 - x4)) ≤ (32768 : Int))) then
        call (.s2 a0 a1 a2 a3 (0 : Int) x4 a4 a5 a6 a7)
       else
        call (.s3 a0 a1 a2 a3 (0 : Int) (0 : Int) a4 a5 a6 a7)
      else
       call (.s3 a0 a1 a2 a3 (0 : Int) (0 : Int) a4 a5 a6 a7)
     else
      none
    else
     none
   else
    bif (inB a3 (List.length a0)) then
     f83 m a1 (IntKind.wrap .i64 ((UInt8.toNat (List.getD a0 (Int.toNat a3) 0) : Nat) : Int)) (fun (r9 : Int) (r10 : Int) =>
      f84 m r9 r10 a4 a5 a7 (fun (r11 : Int) (r12 : Int) (r13 : List Int) =>
       call (.s4 a0 a1 a2 a3 r11 r12 a6 r13)) (fun (r14 : Int) (r15 : Int) (r16 : List Int) =>
       call (.s4 a0 a1 a2 a3 r14 r15 a6 r16)))
    else
     none
  else
   f83 m a1 (256 : Int) (fun (r17 : Int) (r18 : Int) =>
    f84 m r17 r18 a4 a5 a7 (fun (r19 : Int) (r20 : Int) (r21 : List Int) =>
     call (.s5 a0 r19 r20 r21)) (fun (r22 : Int) (r23 : Int) (r24 : List Int) =>
     call (.s5 a0 r22 r23 r24)))
  | .s2 a0 a1 a2 a3 a4 a5 a6 a7 a8 a9 => 
  bif (decide (a4 < (258 : Int))) then
   bif (decide ((IntKind.wrap .i64 (a3 + a4)) < (((List.length a0) : Nat) : Int))) then
    let x2 : Int := IntKind.wrap .i64 (a5 + a4)
    bif (inB x2 (List.length a0)) then
     let x4 : Int := IntKind.wrap .i64 (a3 + a4)
     bif (inB x4 (List.length a0)) then
      bif (decide (((UInt8.toNat (List.getD a0 (Int.toNat x2) 0) : Nat) : Int) = ((UInt8.toNat (List.getD a0 (Int.toNat x4) 0) : Nat) : Int))) then
       call (.s2 a0 a1 a2 a3 (IntKind.wrap .i64 (a4 + (1 : Int))) a5 a6 a7 a8 a9)
      else
       call (.s3 a0 a1 a2 a3 a4 (IntKind.wrap .i64 (a3 - a5)) a6 a7 a8 a9)
     else
      none
    else
     none
   else
    call (.s3 a0 a1 a2 a3 a4 (IntKind.wrap .i64 (a3 - a5)) a6 a7 a8 a9)
  else
   call (.s3 a0 a1 a2 a3 a4 (IntKind.wrap .i64 (a3 - a5)) a6 a7 a8 a9)
  | .s3 a0 a1 a2 a3 a4 a5 a6 a7 a8 a9 => 
  let x1 : Int := IntKind.wrap .i64 (a3 + (3 : Int))
  bif (leB x1 (List.length a0)) then
   bif (leB a3 (Int.toNat x1)) then
    let x3 : List (List UInt8 × Int) := mset (fun (a b : List UInt8) => decide (a = b)) a8 (List.drop (Int.toNat a3) (List.take (Int.toNat x1) a0)) a3
    bif (decide (a4 < (3 : Int))) then
     bif (inB a3 (List.length a0)) then
      f83 m a1 (IntKind.wrap .i64 ((UInt8.toNat (List.getD a0 (Int.toNat a3) 0) : Nat) : Int)) (fun (r6 : Int) (r7 : Int) =>
       f84 m r6 r7 a6 a7 a9 (fun (r8 : Int) (r9 : Int) (r10 : List Int) =>
        call (.s4 a0 a1 a2 a3 r8 r9 x3 r10)) (fun (r11 : Int) (r12 : Int) (r13 : List Int) =>
        call (.s4 a0 a1 a2 a3 r11 r12 x3 r13)))
     else
      none
    else
     f85 m a4 (28 : Int) (fun (r14 : Int) (r15 : Int) (r16 : Int) =>
      f83 m a1 (IntKind.wrap .i64 ((257 : Int) + r14)) (fun (r18 : Int) (r19 : Int) =>
       f84 m r18 r19 a6 a7 a9 (fun (r20 : Int) (r21 : Int) (r22 : List Int) =>
        call (.s6 a0 a1 a2 a3 a4 a5 r15 r16 r20 r21 x3 r22)) (fun (r23 : Int) (r24 : Int) (r25 : List Int) =>
        call (.s6 a0 a1 a2 a3 a4 a5 r15 r16 r23 r24 x3 r25))))
   else
    none
  else
   none
  | .s4 a0 a1 a2 a3 a4 a5 a6 a7 => 
  call (.s1 a0 a1 a2 (IntKind.wrap .i64 (a3 + (1 : Int))) a4 a5 a6 a7)
  | .s5 a0 a1 a2 a3 => 
  f88 m (some (a3, (a1, a2))) (fun (r1 : List UInt8) =>
   f89 m a0 (fun (r2 : List UInt8) =>
    bif (decide ((((List.length r1) : Nat) : Int) < (((List.length r2) : Nat) : Int))) then
     K0 r1
    else
     f89 m a0 (fun (r3 : List UInt8) =>
      K0 r3)))
  | .s6 a0 a1 a2 a3 a4 a5 a6 a7 a8 a9 a10 a11 => 
  f82v2 m a6 a7 a8 a9 a11 (fun (r1 : Int) (r2 : Int) (r3 : List Int) =>
   f85v2 m a5 (29 : Int) (fun (r4 : Int) (r5 : Int) (r6 : Int) =>
    f83 m a2 r4 (fun (r7 : Int) (r8 : Int) =>
     f84 m r7 r8 r1 r2 r3 (fun (r9 : Int) (r10 : Int) (r11 : List Int) =>
      f82v2 m r5 r6 r9 r10 r11 (fun (r12 : Int) (r13 : Int) (r14 : List Int) =>
       call (.s1 a0 a1 a2 (IntKind.wrap .i64 (a3 + a4)) r12 r13 a10 r14)) (fun (r16 : Int) (r17 : Int) (r18 : List Int) =>
       call (.s1 a0 a1 a2 (IntKind.wrap .i64 (a3 + a4)) r16 r17 a10 r18))) (fun (r20 : Int) (r21 : Int) (r22 : List Int) =>
      f82v2 m r5 r6 r20 r21 r22 (fun (r23 : Int) (r24 : Int) (r25 : List Int) =>
       call (.s1 a0 a1 a2 (IntKind.wrap .i64 (a3 + a4)) r23 r24 a10 r25)) (fun (r27 : Int) (r28 : Int) (r29 : List Int) =>
       call (.s1 a0 a1 a2 (IntKind.wrap .i64 (a3 + a4)) r27 r28 a10 r29)))))) (fun (r31 : Int) (r32 : Int) (r33 : List Int) =>
   f85v2 m a5 (29 : Int) (fun (r34 : Int) (r35 : Int) (r36 : Int) =>
    f83 m a2 r34 (fun (r37 : Int) (r38 : Int) =>
     f84 m r37 r38 r31 r32 r33 (fun (r39 : Int) (r40 : Int) (r41 : List Int) =>
      f82v2 m r35 r36 r39 r40 r41 (fun (r42 : Int) (r43 : Int) (r44 : List Int) =>
       call (.s1 a0 a1 a2 (IntKind.wrap .i64 (a3 + a4)) r42 r43 a10 r44)) (fun (r46 : Int) (r47 : Int) (r48 : List Int) =>
       call (.s1 a0 a1 a2 (IntKind.wrap .i64 (a3 + a4)) r46 r47 a10 r48))) (fun (r50 : Int) (r51 : Int) (r52 : List Int) =>
      f82v2 m r35 r36 r50 r51 r52 (fun (r53 : Int) (r54 : Int) (r55 : List Int) =>
       call (.s1 a0 a1 a2 (IntKind.wrap .i64 (a3 + a4)) r53 r54 a10 r55)) (fun (r57 : Int) (r58 : Int) (r59 : List Int) =>
       call (.s1 a0 a1 a2 (IntKind.wrap .i64 (a3 + a4)) r57 r58 a10 r59))))))
noncomputable def f46 (m : Nat) (a0 : List UInt8) (K0 : List UInt8 → Option R) : Option R := iter (f46.step m K0) m (.s0 a0)
noncomputable def f46.pc (m : Nat) (other : Con R) : Con R := pcon [.p (.dat .str)] [] (fun x y K => f46 m (x.1) (fun r0 => K (.pv .str r0) [])) other
noncomputable def f46.ct (m : Nat) (f : Nat) : Option (List Mode × Con R) := match f with
  | 81 => some ([], (f81.pc m ncon))
  | 82 => some ([.own, .bor, .bor], (f82.pc m (f82v2.pc m ncon)))
  | 83 => some ([.bor, .bor], (f83.pc m ncon))
  | 84 => some ([.own, .bor, .bor], (f84.pc m ncon))
  | 85 => some ([.bor, .bor, .own], (f85.pc m (f85v2.pc m ncon)))
  | 88 => some ([.bor], (f88.pc m ncon))
  | 89 => some ([.bor], (f89.pc m ncon))
  | _ => none
theorem f46.seg (m : Nat) : Seg (f46.ct (R := R) m) f46.C 0 Tryz.f46 (some [some .str]) f46.todo f46.fr f46.hp (fun K => f46.step m (fun r0 => K (.pv .str r0) [])) := fun K call s => by cases s <;> kernel_rfl
theorem pl81 : Plain Tryz.prog 81 := ⟨Tryz.f81, by kernel_rfl, by kernel_rfl, by kernel_rfl⟩
theorem pl83 : Plain Tryz.prog 83 := ⟨Tryz.f83, by kernel_rfl, by kernel_rfl, by kernel_rfl⟩
theorem pl84 : Plain Tryz.prog 84 := ⟨Tryz.f84, by kernel_rfl, by kernel_rfl, by kernel_rfl⟩
theorem pl85 : Plain Tryz.prog 85 := ⟨Tryz.f85, by kernel_rfl, by kernel_rfl, by kernel_rfl⟩
theorem pl89 : Plain Tryz.prog 89 := ⟨Tryz.f89, by kernel_rfl, by kernel_rfl, by kernel_rfl⟩
theorem f46.ctok (hl : Laid G H0) (m : Nat) : CtOk G H0 (f46.ct (R := R) m) := by
  intro f ms F h
  unfold f46.ct at h
  split at h
  · exact ctk h pl81 (f81.ok hl m (ncon_ok _))
  · exact ctk h pl82 (f82.ok hl m (f82v2.ok hl m (ncon_ok _)))
  · exact ctk h pl83 (f83.ok hl m (ncon_ok _))
  · exact ctk h pl84 (f84.ok hl m (ncon_ok _))
  · exact ctk h pl85 (f85.ok hl m (f85v2.ok hl m (ncon_ok _)))
  · exact ctk h pl88 (f88.ok hl m (ncon_ok _))
  · exact ctk h pl89 (f89.ok hl m (ncon_ok _))
  · cases h
theorem f46.ok (hl : Laid G H0) (m : Nat) {other : Con R} (ho : FOk Tryz.prog G H0 46 other) : FOk Tryz.prog G H0 46 (f46.pc m other) :=
  seg_ok (c := bodyOf Tryz.f46) (by kernel_rfl) (by kernel_rfl) ho (f46.ctok hl m) m (f46.seg m) (fun x y => .s0 (x.1)) (fun x y K => by kernel_rfl) fun _ _ _ => rfl

noncomputable def f113.C : Cuts := ⟨(fun q => match q with
  | 1 => some { live := [0, 1, 6, 7], adopt := [] }
  | _ => none), (fun _ => none)⟩
inductive f113.St where
  | s0 (a0 : List UInt8) (a1 : Int) (a2 : Int)
  | s1 (a0 : List UInt8) (a1 : Int) (a2 : Int) (a3 : Int) (a4 : Int)
noncomputable def f113.todo : f113.St → List Item
  | .s0 _ _ _ => [.code (bodyOf Tryz.f113)]
  | .s1 _ _ _ _ _ => atBef Tryz.f113 1
noncomputable def f113.fr : f113.St → List SV
  | .s0 a0 a1 a2 => .ptr 0 0 :: .pv .str a0 :: ud 36 []
  | .s1 a0 a1 a2 a3 a4 => .ptr 0 0 :: .pv .str a0 :: dd 4 (.pv (.int .i64) a1 :: .pv (.int .i64) a2 :: dd 30 [])
noncomputable def f113.hp : f113.St → List Blk
  | .s0 a0 a1 a2 => [.box [.pv (.int .u32) a1, .pv (.int .u32) a2] 148]
  | .s1 a0 a1 a2 a3 a4 => [.box [.pv (.int .u32) a3, .pv (.int .u32) a4] 148]
noncomputable def f113.step (m : Nat) (K0 : Int → Int → Option R) (call : f113.St → Option R) : f113.St → Option R
  | .s0 a0 a1 a2 => 
  call (.s1 a0 (((List.length a0) : Nat) : Int) (0 : Int) a1 a2)
  | .s1 a0 a1 a2 a3 a4 => 
  bif (decide (a2 < a1)) then
   bif (inB a2 (List.length a0)) then
    let x4 : Int := Int.tmod (IntKind.wrap .u32 (a3 + (IntKind.wrap .u32 ((UInt8.toNat (List.getD a0 (Int.toNat a2) 0) : Nat) : Int)))) (65521 : Int)
    call (.s1 a0 a1 (IntKind.wrap .i64 (a2 + (1 : Int))) x4 (Int.tmod (IntKind.wrap .u32 ((IntKind.wrap .u32 (a4 + x4)) + (1 : Int))) (65521 : Int)))
   else
    none
  else
   K0 a3 a4
noncomputable def f113 (m : Nat) (a0 : List UInt8) (a1 : Int) (a2 : Int) (K0 : Int → Int → Option R) : Option R := iter (f113.step m K0) m (.s0 a0 a1 a2)
noncomputable def f113.pc (m : Nat) (other : Con R) : Con R := pcon [.p (.ptr 0 0), .p (.dat .str)] [.box [.dat (.int .u32), .dat (.int .u32)] 148] (fun x y K => f113 m (x.2.1) (y.1.1) (y.1.2.1) (fun r0 r1 => K (.tup []) [.box [.pv (.int .u32) r0, .pv (.int .u32) r1] 148])) other
noncomputable def f113.ct (m : Nat) (f : Nat) : Option (List Mode × Con R) := match f with
  | _ => none
theorem f113.seg (m : Nat) : Seg (f113.ct (R := R) m) f113.C 1 Tryz.f113 (some []) f113.todo f113.fr f113.hp (fun K => f113.step m (fun r0 r1 => K (.tup []) [.box [.pv (.int .u32) r0, .pv (.int .u32) r1] 148])) := fun K call s => by cases s <;> kernel_rfl
theorem f113.ctok (hl : Laid G H0) (m : Nat) : CtOk G H0 (f113.ct (R := R) m) := fun f ms F h => nomatch h
theorem f113.ok (hl : Laid G H0) (m : Nat) {other : Con R} (ho : FOk Tryz.prog G H0 113 other) : FOk Tryz.prog G H0 113 (f113.pc m other) :=
  seg_ok (c := bodyOf Tryz.f113) (by kernel_rfl) (by kernel_rfl) ho (f113.ctok hl m) m (f113.seg m) (fun x y => .s0 (x.2.1) (y.1.1) (y.1.2.1)) (fun x y K => by kernel_rfl) fun _ _ _ => rfl

noncomputable def f114.C : Cuts := ⟨(fun q => match q with
  | _ => none), (fun _ => none)⟩
inductive f114.St where
  | s0 (a0 : Option (Int × Int))
noncomputable def f114.todo : f114.St → List Item
  | .s0 _ => [.code (bodyOf Tryz.f114)]
noncomputable def f114.fr : f114.St → List SV
  | .s0 a0 => .pv (.ptr (.prod (.int .u32) (.int .u32))) a0 :: ud 14 []
noncomputable def f114.hp : f114.St → List Blk
  | .s0 a0 => []
noncomputable def f114.step (m : Nat) (K0 : Int → Option R) (call : f114.St → Option R) : f114.St → Option R
  | .s0 a0 => 
  deref a0 fun (p1 : (Int × Int)) =>
  deref a0 fun (p3 : (Int × Int)) =>
  K0 (ibits .or .u32 (IntKind.wrap .u32 (p1.2 * (65536 : Int))) (Int.tmod (IntKind.wrap .u32 (p3.1 + (1 : Int))) (65521 : Int)))
noncomputable def f114 (m : Nat) (a0 : Option (Int × Int)) (K0 : Int → Option R) : Option R := iter (f114.step m K0) m (.s0 a0)
noncomputable def f114.pc (m : Nat) (other : Con R) : Con R := pcon [.p (.dat (.ptr (.prod (.int .u32) (.int .u32))))] [] (fun x y K => f114 m (x.1) (fun r0 => K (.pv (.int .u32) r0) [])) other
noncomputable def f114.ct (m : Nat) (f : Nat) : Option (List Mode × Con R) := match f with
  | _ => none
theorem f114.seg (m : Nat) : Seg (f114.ct (R := R) m) f114.C 0 Tryz.f114 (some [some (.int .u32)]) f114.todo f114.fr f114.hp (fun K => f114.step m (fun r0 => K (.pv (.int .u32) r0) [])) := fun K call s => by cases s <;> kernel_rfl
theorem f114.ctok (hl : Laid G H0) (m : Nat) : CtOk G H0 (f114.ct (R := R) m) := fun f ms F h => nomatch h
theorem f114.ok (hl : Laid G H0) (m : Nat) {other : Con R} (ho : FOk Tryz.prog G H0 114 other) : FOk Tryz.prog G H0 114 (f114.pc m other) :=
  seg_ok (c := bodyOf Tryz.f114) (by kernel_rfl) (by kernel_rfl) ho (f114.ctok hl m) m (f114.seg m) (fun x y => .s0 (x.1)) (fun x y K => by kernel_rfl) fun _ _ _ => rfl

noncomputable def f72.C : Cuts := ⟨(fun q => match q with
  | _ => none), (fun _ => none)⟩
inductive f72.St where
  | s0 (a0 : List UInt8)
noncomputable def f72.todo : f72.St → List Item
  | .s0 _ => [.code (bodyOf Tryz.f72)]
noncomputable def f72.fr : f72.St → List SV
  | .s0 a0 => .pv .str a0 :: ud 6 []
noncomputable def f72.hp : f72.St → List Blk
  | .s0 a0 => []
noncomputable def f72.step (m : Nat) (K0 : Int → Option R) (call : f72.St → Option R) : f72.St → Option R
  | .s0 a0 => 
  f113 m a0 (0 : Int) (0 : Int) (fun (r1 : Int) (r2 : Int) =>
   f114 m (some (r1, r2)) (fun (r3 : Int) =>
    K0 r3))
noncomputable def f72 (m : Nat) (a0 : List UInt8) (K0 : Int → Option R) : Option R := iter (f72.step m K0) m (.s0 a0)
noncomputable def f72.pc (m : Nat) (other : Con R) : Con R := pcon [.p (.dat .str)] [] (fun x y K => f72 m (x.1) (fun r0 => K (.pv (.int .u32) r0) [])) other
noncomputable def f72.ct (m : Nat) (f : Nat) : Option (List Mode × Con R) := match f with
  | 113 => some ([.own, .bor], (f113.pc m ncon))
  | 114 => some ([.bor], (f114.pc m ncon))
  | _ => none
theorem f72.seg (m : Nat) : Seg (f72.ct (R := R) m) f72.C 0 Tryz.f72 (some [some (.int .u32)]) f72.todo f72.fr f72.hp (fun K => f72.step m (fun r0 => K (.pv (.int .u32) r0) [])) := fun K call s => by cases s <;> kernel_rfl
theorem pl113 : Plain Tryz.prog 113 := ⟨Tryz.f113, by kernel_rfl, by kernel_rfl, by kernel_rfl⟩
theorem pl114 : Plain Tryz.prog 114 := ⟨Tryz.f114, by kernel_rfl, by kernel_rfl, by kernel_rfl⟩
theorem f72.ctok (hl : Laid G H0) (m : Nat) : CtOk G H0 (f72.ct (R := R) m) := by
  intro f ms F h
  unfold f72.ct at h
  split at h
  · exact ctk h pl113 (f113.ok hl m (ncon_ok _))
  · exact ctk h pl114 (f114.ok hl m (ncon_ok _))
  · cases h
theorem f72.ok (hl : Laid G H0) (m : Nat) {other : Con R} (ho : FOk Tryz.prog G H0 72 other) : FOk Tryz.prog G H0 72 (f72.pc m other) :=
  seg_ok (c := bodyOf Tryz.f72) (by kernel_rfl) (by kernel_rfl) ho (f72.ctok hl m) m (f72.seg m) (fun x y => .s0 (x.1)) (fun x y K => by kernel_rfl) fun _ _ _ => rfl

noncomputable def f80.C : Cuts := ⟨(fun q => match q with
  | 3 => some { live := [0, 1, 5, 8, 9], adopt := [(5, [], (.int .u8), 5)] }
  | _ => none), (fun _ => none)⟩
inductive f80.St where
  | s0 (a0 : Int) (a1 : Int)
  | s1 (a0 : Int) (a1 : Int) (a2 : Int) (a3 : Int) (a4 : List Int)
noncomputable def f80.todo : f80.St → List Item
  | .s0 _ _ => [.code (bodyOf Tryz.f80)]
  | .s1 _ _ _ _ _ => atBef Tryz.f80 3
noncomputable def f80.fr : f80.St → List SV
  | .s0 a0 a1 => .pv (.int .u64) a0 :: .pv (.int .i64) a1 :: ud 31 []
  | .s1 a0 a1 a2 a3 a4 => .pv (.int .u64) a0 :: .pv (.int .i64) a1 :: dd 3 (.sl 0 none :: .dead :: .dead :: .pv (.int .i64) a2 :: .pv (.int .i64) a3 :: dd 23 [])
noncomputable def f80.hp : f80.St → List Blk
  | .s0 a0 a1 => []
  | .s1 a0 a1 a2 a3 a4 => [.row (.int .u8) a4 5 true]
noncomputable def f80.step (m : Nat) (K0 : List UInt8 → Option R) (call : f80.St → Option R) : f80.St → Option R
  | .s0 a0 a1 => 
  call (.s1 a0 a1 (if (0 : Int) > a1 then (0 : Int) else a1) (0 : Int) ([] : List Int))
  | .s1 a0 a1 a2 a3 a4 => 
  bif (decide (a3 < a2)) then
   bif (decide ((8 : Int) < (IntKind.wrap .i64 (a1 - a3)))) then
    let x2 : List Int := [(0 : Int)]
    bif ((decide (((List.length a4) + (List.length x2)) ≤ LIM)) && (decide ((((List.length a4) + (List.length x2)) * 1) ≤ LIM))) then
     call (.s1 a0 a1 a2 (IntKind.wrap .i64 (a3 + (1 : Int))) (a4 ++ x2))
    else
     none
   else
    let x7 : Int := IntKind.wrap .i64 ((8 : Int) * (IntKind.wrap .i64 ((IntKind.wrap .i64 (a1 - (1 : Int))) - a3)))
    bif (decide ((0 : Int) ≤ x7)) then
     let x10 : List Int := [IntKind.wrap .u8 (Int.fdiv a0 ((2 : Int) ^ (min (Int.toNat x7) 64)))]
     bif ((decide (((List.length a4) + (List.length x10)) ≤ LIM)) && (decide ((((List.length a4) + (List.length x10)) * 1) ≤ LIM))) then
      call (.s1 a0 a1 a2 (IntKind.wrap .i64 (a3 + (1 : Int))) (a4 ++ x10))
     else
      none
    else
     none
  else
   K0 (bytesOf a4)
noncomputable def f80 (m : Nat) (a0 : Int) (a1 : Int) (K0 : List UInt8 → Option R) : Option R := iter (f80.step m K0) m (.s0 a0 a1)
noncomputable def f80.pc (m : Nat) (other : Con R) : Con R := pcon [.p (.dat (.int .u64)), .p (.dat (.int .i64))] [] (fun x y K => f80 m (x.1) (x.2.1) (fun r0 => K (.pv .str r0) [])) other
noncomputable def f80.ct (m : Nat) (f : Nat) : Option (List Mode × Con R) := match f with
  | _ => none
theorem f80.seg (m : Nat) : Seg (f80.ct (R := R) m) f80.C 0 Tryz.f80 (some [some .str]) f80.todo f80.fr f80.hp (fun K => f80.step m (fun r0 => K (.pv .str r0) [])) := fun K call s => by cases s <;> kernel_rfl
theorem f80.ctok (hl : Laid G H0) (m : Nat) : CtOk G H0 (f80.ct (R := R) m) := fun f ms F h => nomatch h
theorem f80.ok (hl : Laid G H0) (m : Nat) {other : Con R} (ho : FOk Tryz.prog G H0 80 other) : FOk Tryz.prog G H0 80 (f80.pc m other) :=
  seg_ok (c := bodyOf Tryz.f80) (by kernel_rfl) (by kernel_rfl) ho (f80.ctok hl m) m (f80.seg m) (fun x y => .s0 (x.1) (x.2.1)) (fun x y K => by kernel_rfl) fun _ _ _ => rfl

noncomputable def f45.C : Cuts := ⟨(fun q => match q with
  | _ => none), (fun _ => none)⟩
inductive f45.St where
  | s0 (a0 : List UInt8) (a1 : List UInt8)
noncomputable def f45.todo : f45.St → List Item
  | .s0 _ _ => [.code (bodyOf Tryz.f45)]
noncomputable def f45.fr : f45.St → List SV
  | .s0 a0 a1 => .pv .str a0 :: .pv .str a1 :: ud 10 []
noncomputable def f45.hp : f45.St → List Blk
  | .s0 a0 a1 => []
noncomputable def f45.step (m : Nat) (K0 : List UInt8 → Option R) (call : f45.St → Option R) : f45.St → Option R
  | .s0 a0 a1 => 
  bif (decide ((2 + (List.length a0)) ≤ LIM)) then
   let x1 : List UInt8 := ([120, 1] : List UInt8) ++ a0
   f72 m a1 (fun (r2 : Int) =>
    f80 m (IntKind.wrap .u64 r2) (4 : Int) (fun (r4 : List UInt8) =>
     bif (decide (((List.length x1) + (List.length r4)) ≤ LIM)) then
      K0 (x1 ++ r4)
     else
      none))
  else
   none
noncomputable def f45 (m : Nat) (a0 : List UInt8) (a1 : List UInt8) (K0 : List UInt8 → Option R) : Option R := iter (f45.step m K0) m (.s0 a0 a1)
noncomputable def f45.pc (m : Nat) (other : Con R) : Con R := pcon [.p (.dat .str), .p (.dat .str)] [] (fun x y K => f45 m (x.1) (x.2.1) (fun r0 => K (.pv .str r0) [])) other
noncomputable def f45.ct (m : Nat) (f : Nat) : Option (List Mode × Con R) := match f with
  | 72 => some ([.bor], (f72.pc m ncon))
  | 80 => some ([.bor, .bor], (f80.pc m ncon))
  | _ => none
theorem f45.seg (m : Nat) : Seg (f45.ct (R := R) m) f45.C 0 Tryz.f45 (some [some .str]) f45.todo f45.fr f45.hp (fun K => f45.step m (fun r0 => K (.pv .str r0) [])) := fun K call s => by cases s <;> kernel_rfl
theorem pl72 : Plain Tryz.prog 72 := ⟨Tryz.f72, by kernel_rfl, by kernel_rfl, by kernel_rfl⟩
theorem pl80 : Plain Tryz.prog 80 := ⟨Tryz.f80, by kernel_rfl, by kernel_rfl, by kernel_rfl⟩
theorem f45.ctok (hl : Laid G H0) (m : Nat) : CtOk G H0 (f45.ct (R := R) m) := by
  intro f ms F h
  unfold f45.ct at h
  split at h
  · exact ctk h pl72 (f72.ok hl m (ncon_ok _))
  · exact ctk h pl80 (f80.ok hl m (ncon_ok _))
  · cases h
theorem f45.ok (hl : Laid G H0) (m : Nat) {other : Con R} (ho : FOk Tryz.prog G H0 45 other) : FOk Tryz.prog G H0 45 (f45.pc m other) :=
  seg_ok (c := bodyOf Tryz.f45) (by kernel_rfl) (by kernel_rfl) ho (f45.ctok hl m) m (f45.seg m) (fun x y => .s0 (x.1) (x.2.1)) (fun x y K => by kernel_rfl) fun _ _ _ => rfl

noncomputable def f21.C : Cuts := ⟨(fun q => match q with
  | _ => none), (fun _ => none)⟩
inductive f21.St where
  | s0 (a0 : List UInt8)
noncomputable def f21.todo : f21.St → List Item
  | .s0 _ => [.code (bodyOf Tryz.f21)]
noncomputable def f21.fr : f21.St → List SV
  | .s0 a0 => .pv .str a0 :: ud 6 []
noncomputable def f21.hp : f21.St → List Blk
  | .s0 a0 => []
noncomputable def f21.step (m : Nat) (K0 : List UInt8 → Option R) (call : f21.St → Option R) : f21.St → Option R
  | .s0 a0 => 
  f46 m a0 (fun (r1 : List UInt8) =>
   f45 m r1 a0 (fun (r2 : List UInt8) =>
    K0 r2))
noncomputable def f21 (m : Nat) (a0 : List UInt8) (K0 : List UInt8 → Option R) : Option R := iter (f21.step m K0) m (.s0 a0)
noncomputable def f21.pc (m : Nat) (other : Con R) : Con R := pcon [.p (.dat .str)] [] (fun x y K => f21 m (x.1) (fun r0 => K (.pv .str r0) [])) other
noncomputable def f21.ct (m : Nat) (f : Nat) : Option (List Mode × Con R) := match f with
  | 46 => some ([.bor], (f46.pc m ncon))
  | 45 => some ([.bor, .bor], (f45.pc m ncon))
  | _ => none
theorem f21.seg (m : Nat) : Seg (f21.ct (R := R) m) f21.C 0 Tryz.f21 (some [some .str]) f21.todo f21.fr f21.hp (fun K => f21.step m (fun r0 => K (.pv .str r0) [])) := fun K call s => by cases s <;> kernel_rfl
theorem pl46 : Plain Tryz.prog 46 := ⟨Tryz.f46, by kernel_rfl, by kernel_rfl, by kernel_rfl⟩
theorem pl45 : Plain Tryz.prog 45 := ⟨Tryz.f45, by kernel_rfl, by kernel_rfl, by kernel_rfl⟩
theorem f21.ctok (hl : Laid G H0) (m : Nat) : CtOk G H0 (f21.ct (R := R) m) := by
  intro f ms F h
  unfold f21.ct at h
  split at h
  · exact ctk h pl46 (f46.ok hl m (ncon_ok _))
  · exact ctk h pl45 (f45.ok hl m (ncon_ok _))
  · cases h
theorem f21.ok (hl : Laid G H0) (m : Nat) {other : Con R} (ho : FOk Tryz.prog G H0 21 other) : FOk Tryz.prog G H0 21 (f21.pc m other) :=
  seg_ok (c := bodyOf Tryz.f21) (by kernel_rfl) (by kernel_rfl) ho (f21.ctok hl m) m (f21.seg m) (fun x y => .s0 (x.1)) (fun x y K => by kernel_rfl) fun _ _ _ => rfl

noncomputable def f5.C : Cuts := ⟨(fun q => match q with
  | _ => none), (fun _ => none)⟩
inductive f5.St where
  | s0 (a0 : Int) (a1 : List UInt8)
noncomputable def f5.todo : f5.St → List Item
  | .s0 _ _ => [.code (bodyOf Tryz.f5)]
noncomputable def f5.fr : f5.St → List SV
  | .s0 a0 a1 => .agg [.pv (.int .i64) a0, .pv .str a1] :: ud 32 []
noncomputable def f5.hp : f5.St → List Blk
  | .s0 a0 a1 => []
noncomputable def f5.step (m : Nat) (K0 : List UInt8 → List UInt8 → Int → Option R) (call : f5.St → Option R) : f5.St → Option R
  | .s0 a0 a1 => 
  f18 m a0 a1 (fun (r1 : List UInt8) (r2 : Int) =>
   bif (!(decide (r2 = (0 : Int)))) then
    K0 ([] : List UInt8) ([] : List UInt8) r2
   else
    f19 m a0 a1 (fun (r4 : List UInt8) (r5 : Int) =>
     f20 m r4 (fun (r6 : List UInt8) (r7 : Int) =>
      f21 m r1 (fun (r8 : List UInt8) =>
       K0 r6 r8 (0 : Int)))))
noncomputable def f5 (m : Nat) (a0 : Int) (a1 : List UInt8) (K0 : List UInt8 → List UInt8 → Int → Option R) : Option R := iter (f5.step m K0) m (.s0 a0 a1)
noncomputable def f5.pc (m : Nat) (other : Con R) : Con R := pcon [.p (.dat (.prod (.int .i64) .str))] [] (fun x y K => f5 m (x.1.1) (x.1.2) (fun r0 r1 r2 => K (.tup [.agg [.pv .str r0, .pv .str r1], .pv (.int .i64) r2]) [])) other
noncomputable def f5.ct (m : Nat) (f : Nat) : Option (List Mode × Con R) := match f with
  | 18 => some ([.bor], (f18.pc m ncon))
  | 19 => some ([.bor], (f19.pc m ncon))
  | 20 => some ([.bor], (f20.pc m ncon))
  | 21 => some ([.bor], (f21.pc m ncon))
  | _ => none
theorem f5.seg (m : Nat) : Seg (f5.ct (R := R) m) f5.C 0 Tryz.f5 (some [some (.prod .str .str), some (.int .i64)]) f5.todo f5.fr f5.hp (fun K => f5.step m (fun r0 r1 r2 => K (.tup [.agg [.pv .str r0, .pv .str r1], .pv (.int .i64) r2]) [])) := fun K call s => by cases s <;> kernel_rfl
theorem pl19 : Plain Tryz.prog 19 := ⟨Tryz.f19, by kernel_rfl, by kernel_rfl, by kernel_rfl⟩
theorem pl20 : Plain Tryz.prog 20 := ⟨Tryz.f20, by kernel_rfl, by kernel_rfl, by kernel_rfl⟩
theorem pl21 : Plain Tryz.prog 21 := ⟨Tryz.f21, by kernel_rfl, by kernel_rfl, by kernel_rfl⟩
theorem f5.ctok (hl : Laid G H0) (m : Nat) : CtOk G H0 (f5.ct (R := R) m) := by
  intro f ms F h
  unfold f5.ct at h
  split at h
  · exact ctk h pl18 (f18.ok hl m (ncon_ok _))
  · exact ctk h pl19 (f19.ok hl m (ncon_ok _))
  · exact ctk h pl20 (f20.ok hl m (ncon_ok _))
  · exact ctk h pl21 (f21.ok hl m (ncon_ok _))
  · cases h
theorem f5.ok (hl : Laid G H0) (m : Nat) {other : Con R} (ho : FOk Tryz.prog G H0 5 other) : FOk Tryz.prog G H0 5 (f5.pc m other) :=
  seg_ok (c := bodyOf Tryz.f5) (by kernel_rfl) (by kernel_rfl) ho (f5.ctok hl m) m (f5.seg m) (fun x y => .s0 (x.1.1) (x.1.2)) (fun x y K => by kernel_rfl) fun _ _ _ => rfl

noncomputable def f22.C : Cuts := ⟨(fun q => match q with
  | _ => none), (fun _ => none)⟩
inductive f22.St where
  | s0 (a0 : Int)
noncomputable def f22.todo : f22.St → List Item
  | .s0 _ => [.code (bodyOf Tryz.f22)]
noncomputable def f22.fr : f22.St → List SV
  | .s0 a0 => .pv (.int .i64) a0 :: ud 13 []
noncomputable def f22.hp : f22.St → List Blk
  | .s0 a0 => []
noncomputable def f22.step (m : Nat) (K0 : List UInt8 → Option R) (call : f22.St → Option R) : f22.St → Option R
  | .s0 a0 => 
  bif (!(decide (a0 < (1 : Int)))) then
   bif (decide ((4 : Int) < a0)) then
    K0 ([] : List UInt8)
   else
    let x1 : List (List UInt8) := [([99, 111, 109, 109, 105, 116] : List UInt8), ([116, 114, 101, 101] : List UInt8), ([98, 108, 111, 98] : List UInt8), ([116, 97, 103] : List UInt8)]
    let x2 : Int := IntKind.wrap .i64 (a0 - (1 : Int))
    bif (inB x2 (List.length x1)) then
     K0 (List.getD x1 (Int.toNat x2) ([] : List UInt8))
    else
     none
  else
   K0 ([] : List UInt8)
noncomputable def f22 (m : Nat) (a0 : Int) (K0 : List UInt8 → Option R) : Option R := iter (f22.step m K0) m (.s0 a0)
noncomputable def f22.pc (m : Nat) (other : Con R) : Con R := pcon [.p (.dat (.int .i64))] [] (fun x y K => f22 m (x.1) (fun r0 => K (.pv .str r0) [])) other
noncomputable def f22.ct (m : Nat) (f : Nat) : Option (List Mode × Con R) := match f with
  | _ => none
theorem f22.seg (m : Nat) : Seg (f22.ct (R := R) m) f22.C 0 Tryz.f22 (some [some .str]) f22.todo f22.fr f22.hp (fun K => f22.step m (fun r0 => K (.pv .str r0) [])) := fun K call s => by cases s <;> kernel_rfl
theorem f22.ctok (hl : Laid G H0) (m : Nat) : CtOk G H0 (f22.ct (R := R) m) := fun f ms F h => nomatch h
theorem f22.ok (hl : Laid G H0) (m : Nat) {other : Con R} (ho : FOk Tryz.prog G H0 22 other) : FOk Tryz.prog G H0 22 (f22.pc m other) :=
  seg_ok (c := bodyOf Tryz.f22) (by kernel_rfl) (by kernel_rfl) ho (f22.ctok hl m) m (f22.seg m) (fun x y => .s0 (x.1)) (fun x y K => by kernel_rfl) fun _ _ _ => rfl

noncomputable def f6.C : Cuts := ⟨(fun q => match q with
  | _ => none), (fun _ => none)⟩
inductive f6.St where
  | s0 (a0 : Int) (a1 : List UInt8)
noncomputable def f6.todo : f6.St → List Item
  | .s0 _ _ => [.code (bodyOf Tryz.f6)]
noncomputable def f6.fr : f6.St → List SV
  | .s0 a0 a1 => .agg [.pv (.int .i64) a0, .pv .str a1] :: ud 10 []
noncomputable def f6.hp : f6.St → List Blk
  | .s0 a0 a1 => []
noncomputable def f6.step (m : Nat) (K0 : Int → Option R) (call : f6.St → Option R) : f6.St → Option R
  | .s0 a0 a1 => 
  f22 m a0 (fun (r1 : List UInt8) =>
   bif (decide (r1 = ([] : List UInt8))) then
    K0 (10 : Int)
   else
    bif (decide ((65000 : Int) < (((List.length a1) : Nat) : Int))) then
     K0 (2 : Int)
    else
     K0 (0 : Int))
noncomputable def f6 (m : Nat) (a0 : Int) (a1 : List UInt8) (K0 : Int → Option R) : Option R := iter (f6.step m K0) m (.s0 a0 a1)
noncomputable def f6.pc (m : Nat) (other : Con R) : Con R := pcon [.p (.dat (.prod (.int .i64) .str))] [] (fun x y K => f6 m (x.1.1) (x.1.2) (fun r0 => K (.pv (.int .i64) r0) [])) other
noncomputable def f6.ct (m : Nat) (f : Nat) : Option (List Mode × Con R) := match f with
  | 22 => some ([.bor], (f22.pc m ncon))
  | _ => none
theorem f6.seg (m : Nat) : Seg (f6.ct (R := R) m) f6.C 0 Tryz.f6 (some [some (.int .i64)]) f6.todo f6.fr f6.hp (fun K => f6.step m (fun r0 => K (.pv (.int .i64) r0) [])) := fun K call s => by cases s <;> kernel_rfl
theorem pl22 : Plain Tryz.prog 22 := ⟨Tryz.f22, by kernel_rfl, by kernel_rfl, by kernel_rfl⟩
theorem f6.ctok (hl : Laid G H0) (m : Nat) : CtOk G H0 (f6.ct (R := R) m) := by
  intro f ms F h
  unfold f6.ct at h
  split at h
  · exact ctk h pl22 (f22.ok hl m (ncon_ok _))
  · cases h
theorem f6.ok (hl : Laid G H0) (m : Nat) {other : Con R} (ho : FOk Tryz.prog G H0 6 other) : FOk Tryz.prog G H0 6 (f6.pc m other) :=
  seg_ok (c := bodyOf Tryz.f6) (by kernel_rfl) (by kernel_rfl) ho (f6.ctok hl m) m (f6.seg m) (fun x y => .s0 (x.1.1) (x.1.2)) (fun x y K => by kernel_rfl) fun _ _ _ => rfl

noncomputable def f7.C : Cuts := ⟨(fun q => match q with
  | _ => none), (fun _ => none)⟩
inductive f7.St where
  | s0
noncomputable def f7.todo : f7.St → List Item
  | .s0 => [.code (bodyOf Tryz.f7)]
noncomputable def f7.fr : f7.St → List SV
  | .s0 => ud 23 []
noncomputable def f7.hp : f7.St → List Blk
  | .s0 => []
noncomputable def f7.step (m : Nat) (K0 : Bool → Option R) (call : f7.St → Option R) : f7.St → Option R
  | .s0 => 
  f20 m ([101, 54, 57, 100, 101, 50, 57, 98, 98, 50, 100, 49, 100, 54, 52, 51, 52, 98, 56, 98, 50, 57, 97, 101, 55, 55, 53, 97, 100, 56, 99, 50, 101, 52, 56, 99, 53, 51, 57, 49] : List UInt8) (fun (r1 : List UInt8) (r2 : Int) =>
   f20 m ([101, 54] : List UInt8) (fun (r3 : List UInt8) (r4 : Int) =>
    bif (decide (r2 = (0 : Int))) then
     bif (decide (r1 = ([111, 98, 106, 101, 99, 116, 115, 47, 101, 54, 47, 57, 100, 101, 50, 57, 98, 98, 50, 100, 49, 100, 54, 52, 51, 52, 98, 56, 98, 50, 57, 97, 101, 55, 55, 53, 97, 100, 56, 99, 50, 101, 52, 56, 99, 53, 51, 57, 49] : List UInt8))) then
      K0 (decide (r4 = (4 : Int)))
     else
      K0 false
    else
     K0 false))
noncomputable def f7 (m : Nat) (K0 : Bool → Option R) : Option R := iter (f7.step m K0) m (.s0)
noncomputable def f7.pc (m : Nat) (other : Con R) : Con R := pcon [] [] (fun x y K => f7 m (fun r0 => K (.pv .bool r0) [])) other
noncomputable def f7.ct (m : Nat) (f : Nat) : Option (List Mode × Con R) := match f with
  | 20 => some ([.bor], (f20.pc m ncon))
  | _ => none
theorem f7.seg (m : Nat) : Seg (f7.ct (R := R) m) f7.C 0 Tryz.f7 (some [some .bool]) f7.todo f7.fr f7.hp (fun K => f7.step m (fun r0 => K (.pv .bool r0) [])) := fun K call s => by cases s <;> kernel_rfl
theorem f7.ctok (hl : Laid G H0) (m : Nat) : CtOk G H0 (f7.ct (R := R) m) := by
  intro f ms F h
  unfold f7.ct at h
  split at h
  · exact ctk h pl20 (f20.ok hl m (ncon_ok _))
  · cases h
theorem f7.ok (hl : Laid G H0) (m : Nat) {other : Con R} (ho : FOk Tryz.prog G H0 7 other) : FOk Tryz.prog G H0 7 (f7.pc m other) :=
  seg_ok (c := bodyOf Tryz.f7) (by kernel_rfl) (by kernel_rfl) ho (f7.ctok hl m) m (f7.seg m) (fun x y => .s0) (fun x y K => by kernel_rfl) fun _ _ _ => rfl

noncomputable def f29.C : Cuts := ⟨(fun q => match q with
  | 3 => some { live := [0], adopt := [] }
  | _ => none), (fun _ => none)⟩
inductive f29.St where
  | s0 (a0 : Int)
  | s1 (a0 : Int)
noncomputable def f29.todo : f29.St → List Item
  | .s0 _ => [.code (bodyOf Tryz.f29)]
  | .s1 _ => atBef Tryz.f29 3
noncomputable def f29.fr : f29.St → List SV
  | .s0 a0 => .pv (.int .i64) a0 :: ud 38 []
  | .s1 a0 => .pv (.int .i64) a0 :: dd 38 []
noncomputable def f29.hp : f29.St → List Blk
  | .s0 a0 => []
  | .s1 a0 => []
noncomputable def f29.step (m : Nat) (rec : Int → (List UInt8 → Option R) → Option R) (K0 : List UInt8 → Option R) (call : f29.St → Option R) : f29.St → Option R
  | .s0 a0 => 
  bif (decide (a0 < (0 : Int))) then
   bif (decide ((-10 : Int) < a0)) then
    rec (IntKind.wrap .i64 ((0 : Int) - a0)) (fun (r2 : List UInt8) =>
     bif (decide ((1 + (List.length r2)) ≤ LIM)) then
      K0 (([45] : List UInt8) ++ r2)
     else
      none)
   else
    call (.s1 a0)
  else
   call (.s1 a0)
  | .s1 a0 => 
  bif (decide (a0 < (0 : Int))) then
   rec (IntKind.wrap .i64 (Int.tdiv a0 (10 : Int))) (fun (r2 : List UInt8) =>
    rec (IntKind.wrap .i64 ((0 : Int) - (Int.tmod a0 (10 : Int)))) (fun (r5 : List UInt8) =>
     bif (decide (((List.length r2) + (List.length r5)) ≤ LIM)) then
      K0 (r2 ++ r5)
     else
      none))
  else
   bif (decide (a0 < (10 : Int))) then
    let x7 : Int := IntKind.wrap .i64 (a0 + (1 : Int))
    bif (leB x7 10) then
     bif (leB a0 (Int.toNat x7)) then
      K0 (List.drop (Int.toNat a0) (List.take (Int.toNat x7) ([48, 49, 50, 51, 52, 53, 54, 55, 56, 57] : List UInt8)))
     else
      none
    else
     none
   else
    rec (IntKind.wrap .i64 (Int.tdiv a0 (10 : Int))) (fun (r10 : List UInt8) =>
     let x11 : Int := Int.tmod a0 (10 : Int)
     let x13 : Int := IntKind.wrap .i64 ((Int.tmod a0 (10 : Int)) + (1 : Int))
     bif (leB x13 10) then
      bif (leB x11 (Int.toNat x13)) then
       let x14 : List UInt8 := List.drop (Int.toNat x11) (List.take (Int.toNat x13) ([48, 49, 50, 51, 52, 53, 54, 55, 56, 57] : List UInt8))
       bif (decide (((List.length r10) + (List.length x14)) ≤ LIM)) then
        K0 (r10 ++ x14)
       else
        none
      else
       none
     else
      none)
noncomputable def f29.go (m : Nat) : Nat → Int → (List UInt8 → Option R) → Option R
  | 0 => fun _ _ => none
  | d + 1 => fun a0 K0 => iter (f29.step m (f29.go m d) K0) m (.s0 a0)
noncomputable def f29 (m : Nat) (a0 : Int) (K0 : List UInt8 → Option R) : Option R := f29.go m m a0 K0
noncomputable def f29.pcd (m d : Nat) (other : Con R) : Con R := pcon [.p (.dat (.int .i64))] [] (fun x y K => f29.go m d (x.1) (fun r0 => K (.pv .str r0) [])) other
noncomputable def f29.pc (m : Nat) (other : Con R) : Con R := f29.pcd m m other
noncomputable def f29.ct (m d : Nat) (f : Nat) : Option (List Mode × Con R) := match f with
  | 29 => some ([.bor], (f29.pcd m d ncon))
  | _ => none
theorem f29.seg (m d : Nat) : Seg (f29.ct (R := R) m d) f29.C 0 Tryz.f29 (some [some .str]) f29.todo f29.fr f29.hp (fun K => f29.step m (f29.go m d) (fun r0 => K (.pv .str r0) [])) := fun K call s => by cases s <;> kernel_rfl
theorem pl29 : Plain Tryz.prog 29 := ⟨Tryz.f29, by kernel_rfl, by kernel_rfl, by kernel_rfl⟩
theorem f29.ctok (hl : Laid G H0) (m d : Nat) (ih : ∀ {other : Con R}, FOk Tryz.prog G H0 29 other → FOk Tryz.prog G H0 29 (f29.pcd m d other)) : CtOk G H0 (f29.ct (R := R) m d) := by
  intro f ms F h
  unfold f29.ct at h
  split at h
  · exact ctk h pl29 (ih (ncon_ok _))
  · cases h
theorem f29.okd (hl : Laid G H0) (m : Nat) : ∀ (d : Nat) {other : Con R}, FOk Tryz.prog G H0 29 other → FOk Tryz.prog G H0 29 (f29.pcd m d other)
  | 0, _, ho => pcon_none (fun _ _ _ => rfl) ho
  | d + 1, _, ho => by
    have ih : ∀ {other : Con R}, FOk Tryz.prog G H0 29 other → FOk Tryz.prog G H0 29 (f29.pcd m d other) := fun h => f29.okd hl m d h
    exact seg_ok (c := bodyOf Tryz.f29) (by kernel_rfl) (by kernel_rfl) ho (f29.ctok hl m d ih) m (f29.seg m d) (fun x y => .s0 (x.1)) (fun x y K => by kernel_rfl) fun _ _ _ => rfl
theorem f29.ok (hl : Laid G H0) (m : Nat) {other : Con R} (ho : FOk Tryz.prog G H0 29 other) : FOk Tryz.prog G H0 29 (f29.pc m other) := f29.okd hl m m ho

noncomputable def f11.C : Cuts := ⟨(fun q => match q with
  | _ => none), (fun _ => none)⟩
inductive f11.St where
  | s0 (a0 : Int) (a1 : List UInt8)
noncomputable def f11.todo : f11.St → List Item
  | .s0 _ _ => [.code (bodyOf Tryz.f11)]
noncomputable def f11.fr : f11.St → List SV
  | .s0 a0 a1 => .agg [.pv (.int .i64) a0, .pv .str a1] :: ud 15 []
noncomputable def f11.hp : f11.St → List Blk
  | .s0 a0 a1 => []
noncomputable def f11.step (m : Nat) (K0 : List UInt8 → Option R) (call : f11.St → Option R) : f11.St → Option R
  | .s0 a0 a1 => 
  f22 m a0 (fun (r1 : List UInt8) =>
   bif (decide (((List.length r1) + 1) ≤ LIM)) then
    let x2 : List UInt8 := r1 ++ ([32] : List UInt8)
    f29 m (((List.length a1) : Nat) : Int) (fun (r3 : List UInt8) =>
     bif (decide (((List.length x2) + (List.length r3)) ≤ LIM)) then
      let x4 : List UInt8 := x2 ++ r3
      bif (decide (((List.length x4) + 1) ≤ LIM)) then
       let x5 : List UInt8 := x4 ++ ([0] : List UInt8)
       bif (decide (((List.length x5) + (List.length a1)) ≤ LIM)) then
        K0 (x5 ++ a1)
       else
        none
      else
       none
     else
      none)
   else
    none)
noncomputable def f11 (m : Nat) (a0 : Int) (a1 : List UInt8) (K0 : List UInt8 → Option R) : Option R := iter (f11.step m K0) m (.s0 a0 a1)
noncomputable def f11.pc (m : Nat) (other : Con R) : Con R := pcon [.p (.dat (.prod (.int .i64) .str))] [] (fun x y K => f11 m (x.1.1) (x.1.2) (fun r0 => K (.pv .str r0) [])) other
noncomputable def f11.ct (m : Nat) (f : Nat) : Option (List Mode × Con R) := match f with
  | 22 => some ([.bor], (f22.pc m ncon))
  | 29 => some ([.bor], (f29.pc m ncon))
  | _ => none
theorem f11.seg (m : Nat) : Seg (f11.ct (R := R) m) f11.C 0 Tryz.f11 (some [some .str]) f11.todo f11.fr f11.hp (fun K => f11.step m (fun r0 => K (.pv .str r0) [])) := fun K call s => by cases s <;> kernel_rfl
theorem f11.ctok (hl : Laid G H0) (m : Nat) : CtOk G H0 (f11.ct (R := R) m) := by
  intro f ms F h
  unfold f11.ct at h
  split at h
  · exact ctk h pl22 (f22.ok hl m (ncon_ok _))
  · exact ctk h pl29 (f29.ok hl m (ncon_ok _))
  · cases h
theorem f11.ok (hl : Laid G H0) (m : Nat) {other : Con R} (ho : FOk Tryz.prog G H0 11 other) : FOk Tryz.prog G H0 11 (f11.pc m other) :=
  seg_ok (c := bodyOf Tryz.f11) (by kernel_rfl) (by kernel_rfl) ho (f11.ctok hl m) m (f11.seg m) (fun x y => .s0 (x.1.1) (x.1.2)) (fun x y K => by kernel_rfl) fun _ _ _ => rfl

noncomputable def f47.C : Cuts := ⟨(fun q => match q with
  | 2 => some { live := [0, 3], adopt := [] }
  | 6 => some { live := [3, 4, 5], adopt := [] }
  | _ => none), (fun _ => none)⟩
inductive f47.St where
  | s0 (a0 : List UInt8)
  | s1 (a0 : List UInt8) (a1 : List Int)
  | s2 (a0 : Int) (a1 : Int) (a2 : List Int)
noncomputable def f47.todo : f47.St → List Item
  | .s0 _ => [.code (bodyOf Tryz.f47)]
  | .s1 _ _ => atBef Tryz.f47 2
  | .s2 _ _ _ => atBef Tryz.f47 6
noncomputable def f47.fr : f47.St → List SV
  | .s0 a0 => .pv .str a0 :: ud 33 []
  | .s1 a0 a1 => .pv .str a0 :: .dead :: .dead :: .sl 0 none :: dd 30 []
  | .s2 a0 a1 a2 => dd 3 (.sl 0 none :: .pv (.int .u64) a0 :: .pv (.int .i64) a1 :: dd 28 [])
noncomputable def f47.hp : f47.St → List Blk
  | .s0 a0 => []
  | .s1 a0 a1 => [.row (.int .u8) a1 5 true]
  | .s2 a0 a1 a2 => [.row (.int .u8) a2 5 true]
noncomputable def f47.step (m : Nat) (K0 : List Int → Option R) (call : f47.St → Option R) : f47.St → Option R
  | .s0 a0 => 
  bif (decide ((List.length a0) ≤ LIM)) then
   let x1 : List Int := List.map (fun (b : UInt8) => ((UInt8.toNat b : Nat) : Int)) a0
   let x2 : List Int := [(128 : Int)]
   bif ((decide (((List.length x1) + (List.length x2)) ≤ LIM)) && (decide ((((List.length x1) + (List.length x2)) * 1) ≤ LIM))) then
    call (.s1 a0 (x1 ++ x2))
   else
    none
  else
   none
  | .s1 a0 a1 => 
  bif (!(decide ((Int.tmod (((List.length a1) : Nat) : Int) (64 : Int)) = (56 : Int)))) then
   let x3 : List Int := [(0 : Int)]
   bif ((decide (((List.length a1) + (List.length x3)) ≤ LIM)) && (decide ((((List.length a1) + (List.length x3)) * 1) ≤ LIM))) then
    call (.s1 a0 (a1 ++ x3))
   else
    none
  else
   call (.s2 (IntKind.wrap .u64 ((IntKind.wrap .u64 (((List.length a0) : Nat) : Int)) * (8 : Int))) (7 : Int) a1)
  | .s2 a0 a1 a2 => 
  bif (decide ((0 : Int) ≤ a1)) then
   let x1 : Int := IntKind.wrap .i64 ((8 : Int) * a1)
   bif (decide ((0 : Int) ≤ x1)) then
    let x4 : List Int := [IntKind.wrap .u8 (Int.fdiv a0 ((2 : Int) ^ (min (Int.toNat x1) 64)))]
    bif ((decide (((List.length a2) + (List.length x4)) ≤ LIM)) && (decide ((((List.length a2) + (List.length x4)) * 1) ≤ LIM))) then
     call (.s2 a0 (IntKind.wrap .i64 (a1 - (1 : Int))) (a2 ++ x4))
    else
     none
   else
    none
  else
   K0 a2
noncomputable def f47 (m : Nat) (a0 : List UInt8) (K0 : List Int → Option R) : Option R := iter (f47.step m K0) m (.s0 a0)
noncomputable def f47.pc (m : Nat) (other : Con R) : Con R := pcon [.p (.dat .str)] [] (fun x y K => f47 m (x.1) (fun r0 => K (.sl 0 none) [.row (.int .u8) r0 5 true])) other
noncomputable def f47.ct (m : Nat) (f : Nat) : Option (List Mode × Con R) := match f with
  | _ => none
theorem f47.seg (m : Nat) : Seg (f47.ct (R := R) m) f47.C 0 Tryz.f47 none f47.todo f47.fr f47.hp (fun K => f47.step m (fun r0 => K (.sl 0 none) [.row (.int .u8) r0 5 true])) := fun K call s => by cases s <;> kernel_rfl
theorem f47.ctok (hl : Laid G H0) (m : Nat) : CtOk G H0 (f47.ct (R := R) m) := fun f ms F h => nomatch h
theorem f47.ok (hl : Laid G H0) (m : Nat) {other : Con R} (ho : FOk Tryz.prog G H0 47 other) : FOk Tryz.prog G H0 47 (f47.pc m other) :=
  seg_ok (c := bodyOf Tryz.f47) (by kernel_rfl) (by kernel_rfl) ho (f47.ctok hl m) m (f47.seg m) (fun x y => .s0 (x.1)) (fun x y K => by kernel_rfl) fun _ _ _ => rfl

noncomputable def f48.C : Cuts := ⟨(fun q => match q with
  | 3 => some { live := [0, 3, 4], adopt := [] }
  | _ => none), (fun _ => none)⟩
inductive f48.St where
  | s0 (a0 : List Int)
  | s1 (a0 : List Int) (a1 : Int) (a2 : List Int)
  | s2 (a0 : List Int) (a1 : Int) (a2 : List Int)
noncomputable def f48.todo : f48.St → List Item
  | .s0 _ => [.code (bodyOf Tryz.f48)]
  | .s1 _ _ _ => atBef Tryz.f48 3
  | .s2 _ _ _ => atBef Tryz.f48 3
noncomputable def f48.fr : f48.St → List SV
  | .s0 a0 => .pv (.sl (.int .u8)) a0 :: ud 42 []
  | .s1 a0 a1 a2 => .pv (.sl (.int .u8)) a0 :: .dead :: .dead :: .sl 0 none :: .pv (.int .i64) a1 :: dd 38 []
  | .s2 a0 a1 a2 => .pv (.sl (.int .u8)) a0 :: .dead :: .dead :: .sl 0 none :: .pv (.int .i64) a1 :: dd 38 []
noncomputable def f48.hp : f48.St → List Blk
  | .s0 a0 => []
  | .s1 a0 a1 a2 => [.row (.int .u32) a2 53 false]
  | .s2 a0 a1 a2 => [.row (.int .u32) a2 53 true]
noncomputable def f48.step (m : Nat) (K0 : List Int → Option R) (K1 : List Int → Option R) (call : f48.St → Option R) : f48.St → Option R
  | .s0 a0 => 
  call (.s1 a0 (0 : Int) ([] : List Int))
  | .s1 a0 a1 a2 => 
  bif (decide (a1 < (64 : Int))) then
   bif (inB a1 (List.length a0)) then
    let x4 : Int := IntKind.wrap .i64 (a1 + (1 : Int))
    bif (inB x4 (List.length a0)) then
     let x9 : Int := IntKind.wrap .i64 (a1 + (2 : Int))
     bif (inB x9 (List.length a0)) then
      let x14 : Int := IntKind.wrap .i64 (a1 + (3 : Int))
      bif (inB x14 (List.length a0)) then
       let x18 : List Int := [IntKind.wrap .u32 ((IntKind.wrap .u32 ((IntKind.wrap .u32 ((IntKind.wrap .u32 ((IntKind.wrap .u32 (List.getD a0 (Int.toNat a1) (0 : Int))) * (16777216 : Int))) + (IntKind.wrap .u32 ((IntKind.wrap .u32 (List.getD a0 (Int.toNat x4) (0 : Int))) * (65536 : Int))))) + (IntKind.wrap .u32 ((IntKind.wrap .u32 (List.getD a0 (Int.toNat x9) (0 : Int))) * (256 : Int))))) + (IntKind.wrap .u32 (List.getD a0 (Int.toNat x14) (0 : Int))))]
       bif ((decide (((List.length a2) + (List.length x18)) ≤ LIM)) && (decide ((((List.length a2) + (List.length x18)) * 4) ≤ LIM))) then
        call (.s2 a0 (IntKind.wrap .i64 (a1 + (4 : Int))) (a2 ++ x18))
       else
        none
      else
       none
     else
      none
    else
     none
   else
    none
  else
   K0 a2
  | .s2 a0 a1 a2 => 
  bif (decide (a1 < (64 : Int))) then
   bif (inB a1 (List.length a0)) then
    let x4 : Int := IntKind.wrap .i64 (a1 + (1 : Int))
    bif (inB x4 (List.length a0)) then
     let x9 : Int := IntKind.wrap .i64 (a1 + (2 : Int))
     bif (inB x9 (List.length a0)) then
      let x14 : Int := IntKind.wrap .i64 (a1 + (3 : Int))
      bif (inB x14 (List.length a0)) then
       let x18 : List Int := [IntKind.wrap .u32 ((IntKind.wrap .u32 ((IntKind.wrap .u32 ((IntKind.wrap .u32 ((IntKind.wrap .u32 (List.getD a0 (Int.toNat a1) (0 : Int))) * (16777216 : Int))) + (IntKind.wrap .u32 ((IntKind.wrap .u32 (List.getD a0 (Int.toNat x4) (0 : Int))) * (65536 : Int))))) + (IntKind.wrap .u32 ((IntKind.wrap .u32 (List.getD a0 (Int.toNat x9) (0 : Int))) * (256 : Int))))) + (IntKind.wrap .u32 (List.getD a0 (Int.toNat x14) (0 : Int))))]
       bif ((decide (((List.length a2) + (List.length x18)) ≤ LIM)) && (decide ((((List.length a2) + (List.length x18)) * 4) ≤ LIM))) then
        call (.s2 a0 (IntKind.wrap .i64 (a1 + (4 : Int))) (a2 ++ x18))
       else
        none
      else
       none
     else
      none
    else
     none
   else
    none
  else
   K1 a2
noncomputable def f48 (m : Nat) (a0 : List Int) (K0 : List Int → Option R) (K1 : List Int → Option R) : Option R := iter (f48.step m K0 K1) m (.s0 a0)
noncomputable def f48.pc (m : Nat) (other : Con R) : Con R := pcon [.p (.dat (.sl (.int .u8)))] [] (fun x y K => f48 m (x.1) (fun r0 => K (.sl 0 none) [.row (.int .u32) r0 53 false]) (fun r0 => K (.sl 0 none) [.row (.int .u32) r0 53 true])) other
noncomputable def f48.ct (m : Nat) (f : Nat) : Option (List Mode × Con R) := match f with
  | _ => none
theorem f48.seg (m : Nat) : Seg (f48.ct (R := R) m) f48.C 0 Tryz.f48 none f48.todo f48.fr f48.hp (fun K => f48.step m (fun r0 => K (.sl 0 none) [.row (.int .u32) r0 53 false]) (fun r0 => K (.sl 0 none) [.row (.int .u32) r0 53 true])) := fun K call s => by cases s <;> kernel_rfl
theorem f48.ctok (hl : Laid G H0) (m : Nat) : CtOk G H0 (f48.ct (R := R) m) := fun f ms F h => nomatch h
theorem f48.ok (hl : Laid G H0) (m : Nat) {other : Con R} (ho : FOk Tryz.prog G H0 48 other) : FOk Tryz.prog G H0 48 (f48.pc m other) :=
  seg_ok (c := bodyOf Tryz.f48) (by kernel_rfl) (by kernel_rfl) ho (f48.ctok hl m) m (f48.seg m) (fun x y => .s0 (x.1)) (fun x y K => by kernel_rfl) fun _ _ _ => rfl

noncomputable def f50.C : Cuts := ⟨(fun q => match q with
  | 3 => some { live := [3, 7, 8, 9], adopt := [] }
  | _ => none), (fun _ => none)⟩
inductive f50.St where
  | s0 (a0 : List Int)
  | s1 (a0 : List Int) (a1 : Int) (a2 : Int) (a3 : List Int)
  | s2 (a0 : List Int) (a1 : Int) (a2 : Int) (a3 : List Int)
noncomputable def f50.todo : f50.St → List Item
  | .s0 _ => [.code (bodyOf Tryz.f50)]
  | .s1 _ _ _ _ => atBef Tryz.f50 3
  | .s2 _ _ _ _ => atBef Tryz.f50 3
noncomputable def f50.fr : f50.St → List SV
  | .s0 a0 => .pv (.sl (.int .u32)) a0 :: ud 29 []
  | .s1 a0 a1 a2 a3 => dd 3 (.sl 0 none :: dd 3 (.pv (.sl (.int .u32)) a0 :: .pv (.int .i64) a1 :: .pv (.int .i64) a2 :: dd 20 []))
  | .s2 a0 a1 a2 a3 => dd 3 (.sl 0 none :: dd 3 (.pv (.sl (.int .u32)) a0 :: .pv (.int .i64) a1 :: .pv (.int .i64) a2 :: dd 20 []))
noncomputable def f50.hp : f50.St → List Blk
  | .s0 a0 => []
  | .s1 a0 a1 a2 a3 => [.row (.int .u8) a3 5 false]
  | .s2 a0 a1 a2 a3 => [.row (.int .u8) a3 5 true]
noncomputable def f50.step (m : Nat) (K0 : List UInt8 → Option R) (call : f50.St → Option R) : f50.St → Option R
  | .s0 a0 => 
  call (.s1 a0 (((List.length a0) : Nat) : Int) (0 : Int) ([] : List Int))
  | .s1 a0 a1 a2 a3 => 
  bif (decide (a2 < a1)) then
   bif (inB a2 (List.length a0)) then
    let x9 : List Int := [IntKind.wrap .u8 (Int.fdiv (List.getD a0 (Int.toNat a2) (0 : Int)) (16777216 : Int)), IntKind.wrap .u8 (Int.fdiv (List.getD a0 (Int.toNat a2) (0 : Int)) (65536 : Int)), IntKind.wrap .u8 (Int.fdiv (List.getD a0 (Int.toNat a2) (0 : Int)) (256 : Int)), IntKind.wrap .u8 (List.getD a0 (Int.toNat a2) (0 : Int))]
    bif ((decide (((List.length a3) + (List.length x9)) ≤ LIM)) && (decide ((((List.length a3) + (List.length x9)) * 1) ≤ LIM))) then
     call (.s2 a0 a1 (IntKind.wrap .i64 (a2 + (1 : Int))) (a3 ++ x9))
    else
     none
   else
    none
  else
   K0 (bytesOf a3)
  | .s2 a0 a1 a2 a3 => 
  bif (decide (a2 < a1)) then
   bif (inB a2 (List.length a0)) then
    let x9 : List Int := [IntKind.wrap .u8 (Int.fdiv (List.getD a0 (Int.toNat a2) (0 : Int)) (16777216 : Int)), IntKind.wrap .u8 (Int.fdiv (List.getD a0 (Int.toNat a2) (0 : Int)) (65536 : Int)), IntKind.wrap .u8 (Int.fdiv (List.getD a0 (Int.toNat a2) (0 : Int)) (256 : Int)), IntKind.wrap .u8 (List.getD a0 (Int.toNat a2) (0 : Int))]
    bif ((decide (((List.length a3) + (List.length x9)) ≤ LIM)) && (decide ((((List.length a3) + (List.length x9)) * 1) ≤ LIM))) then
     call (.s2 a0 a1 (IntKind.wrap .i64 (a2 + (1 : Int))) (a3 ++ x9))
    else
     none
   else
    none
  else
   K0 (bytesOf a3)
noncomputable def f50 (m : Nat) (a0 : List Int) (K0 : List UInt8 → Option R) : Option R := iter (f50.step m K0) m (.s0 a0)
noncomputable def f50.pc (m : Nat) (other : Con R) : Con R := pcon [.p (.dat (.sl (.int .u32)))] [] (fun x y K => f50 m (x.1) (fun r0 => K (.pv .str r0) [])) other
noncomputable def f50.ct (m : Nat) (f : Nat) : Option (List Mode × Con R) := match f with
  | _ => none
theorem f50.seg (m : Nat) : Seg (f50.ct (R := R) m) f50.C 0 Tryz.f50 (some [some .str]) f50.todo f50.fr f50.hp (fun K => f50.step m (fun r0 => K (.pv .str r0) [])) := fun K call s => by cases s <;> kernel_rfl
theorem f50.ctok (hl : Laid G H0) (m : Nat) : CtOk G H0 (f50.ct (R := R) m) := fun f ms F h => nomatch h
theorem f50.ok (hl : Laid G H0) (m : Nat) {other : Con R} (ho : FOk Tryz.prog G H0 50 other) : FOk Tryz.prog G H0 50 (f50.pc m other) :=
  seg_ok (c := bodyOf Tryz.f50) (by kernel_rfl) (by kernel_rfl) ho (f50.ctok hl m) m (f50.seg m) (fun x y => .s0 (x.1)) (fun x y K => by kernel_rfl) fun _ _ _ => rfl

noncomputable def f49.C : Cuts := ⟨(fun q => match q with
  | _ => none), (fun _ => none)⟩
inductive f49.St where
  | s0 (a0 : Int) (a1 : Int)
noncomputable def f49.todo : f49.St → List Item
  | .s0 _ _ => [.code (bodyOf Tryz.f49)]
noncomputable def f49.fr : f49.St → List SV
  | .s0 a0 a1 => .pv (.int .u32) a0 :: .pv (.int .i64) a1 :: ud 11 []
noncomputable def f49.hp : f49.St → List Blk
  | .s0 a0 a1 => []
noncomputable def f49.step (m : Nat) (K0 : Int → Option R) (call : f49.St → Option R) : f49.St → Option R
  | .s0 a0 a1 => 
  bif (decide ((0 : Int) ≤ a1)) then
   let x2 : Int := IntKind.wrap .i64 ((32 : Int) - a1)
   bif (decide ((0 : Int) ≤ x2)) then
    K0 (ibits .or .u32 (IntKind.wrap .u32 (a0 * ((2 : Int) ^ (min (Int.toNat a1) 32)))) (Int.fdiv a0 ((2 : Int) ^ (min (Int.toNat x2) 32))))
   else
    none
  else
   none
noncomputable def f49 (m : Nat) (a0 : Int) (a1 : Int) (K0 : Int → Option R) : Option R := iter (f49.step m K0) m (.s0 a0 a1)
noncomputable def f49.pc (m : Nat) (other : Con R) : Con R := pcon [.p (.dat (.int .u32)), .p (.dat (.int .i64))] [] (fun x y K => f49 m (x.1) (x.2.1) (fun r0 => K (.pv (.int .u32) r0) [])) other
noncomputable def f49.ct (m : Nat) (f : Nat) : Option (List Mode × Con R) := match f with
  | _ => none
theorem f49.seg (m : Nat) : Seg (f49.ct (R := R) m) f49.C 0 Tryz.f49 (some [some (.int .u32)]) f49.todo f49.fr f49.hp (fun K => f49.step m (fun r0 => K (.pv (.int .u32) r0) [])) := fun K call s => by cases s <;> kernel_rfl
theorem f49.ctok (hl : Laid G H0) (m : Nat) : CtOk G H0 (f49.ct (R := R) m) := fun f ms F h => nomatch h
theorem f49.ok (hl : Laid G H0) (m : Nat) {other : Con R} (ho : FOk Tryz.prog G H0 49 other) : FOk Tryz.prog G H0 49 (f49.pc m other) :=
  seg_ok (c := bodyOf Tryz.f49) (by kernel_rfl) (by kernel_rfl) ho (f49.ctok hl m) m (f49.seg m) (fun x y => .s0 (x.1) (x.2.1)) (fun x y K => by kernel_rfl) fun _ _ _ => rfl

noncomputable def f24.C : Cuts := ⟨(fun q => match q with
  | 4 => some { live := [3, 4, 5], adopt := [] }
  | 8 => some { live := [3, 4, 5, 6, 7], adopt := [] }
  | 13 => some { live := [3, 4, 5, 6, 8, 9, 10, 11, 12, 13], adopt := [] }
  | 19 => some { live := [3, 4, 5, 6, 8, 9, 10, 11, 12, 13, 14, 15], adopt := [] }
  | _ => none), (fun _ => none)⟩
inductive f24.St where
  | s0 (a0 : List UInt8)
  | s1 (a0 : Int) (a1 : List Int) (a2 : List Int)
  | s2 (a0 : Int) (a1 : Int) (a2 : List Int) (a3 : List Int) (a4 : List Int)
  | s3 (a0 : Int) (a1 : Int) (a2 : List Int) (a3 : List Int) (a4 : List Int)
  | s4 (a0 : Int) (a1 : Int) (a2 : Int) (a3 : Int) (a4 : Int) (a5 : Int) (a6 : Int) (a7 : List Int) (a8 : List Int) (a9 : List Int)
  | s5 (a0 : Int) (a1 : Int) (a2 : Int) (a3 : Int) (a4 : Int) (a5 : Int) (a6 : Int) (a7 : List Int) (a8 : List Int) (a9 : List Int)
  | s6 (a0 : Int) (a1 : Int) (a2 : Int) (a3 : Int) (a4 : Int) (a5 : Int) (a6 : Int) (a7 : Int) (a8 : Int) (a9 : List Int) (a10 : List Int) (a11 : List Int)
  | s7 (a0 : Int) (a1 : Int) (a2 : Int) (a3 : Int) (a4 : Int) (a5 : Int) (a6 : Int) (a7 : Int) (a8 : Int) (a9 : List Int) (a10 : List Int) (a11 : List Int)
noncomputable def f24.todo : f24.St → List Item
  | .s0 _ => [.code (bodyOf Tryz.f24)]
  | .s1 _ _ _ => atBef Tryz.f24 4
  | .s2 _ _ _ _ _ => atBef Tryz.f24 8
  | .s3 _ _ _ _ _ => atBef Tryz.f24 8
  | .s4 _ _ _ _ _ _ _ _ _ _ => atBef Tryz.f24 13
  | .s5 _ _ _ _ _ _ _ _ _ _ => atBef Tryz.f24 13
  | .s6 _ _ _ _ _ _ _ _ _ _ _ _ => atBef Tryz.f24 19
  | .s7 _ _ _ _ _ _ _ _ _ _ _ _ => atBef Tryz.f24 19
noncomputable def f24.fr : f24.St → List SV
  | .s0 a0 => .pv .str a0 :: ud 163 []
  | .s1 a0 a1 a2 => dd 3 (.sl 0 none :: .sl 1 none :: .pv (.int .i64) a0 :: dd 158 [])
  | .s2 a0 a1 a2 a3 a4 => dd 3 (.sl 0 none :: .sl 1 none :: .pv (.int .i64) a0 :: .sl 2 none :: .pv (.int .i64) a1 :: dd 156 [])
  | .s3 a0 a1 a2 a3 a4 => dd 3 (.sl 0 none :: .sl 1 none :: .pv (.int .i64) a0 :: .sl 2 none :: .pv (.int .i64) a1 :: dd 156 [])
  | .s4 a0 a1 a2 a3 a4 a5 a6 a7 a8 a9 => dd 3 (.sl 0 none :: .sl 1 none :: .pv (.int .i64) a0 :: .sl 2 none :: .dead :: .pv (.int .u32) a1 :: .pv (.int .u32) a2 :: .pv (.int .u32) a3 :: .pv (.int .u32) a4 :: .pv (.int .u32) a5 :: .pv (.int .i64) a6 :: dd 150 [])
  | .s5 a0 a1 a2 a3 a4 a5 a6 a7 a8 a9 => dd 3 (.sl 0 none :: .sl 1 none :: .pv (.int .i64) a0 :: .sl 2 none :: .dead :: .pv (.int .u32) a1 :: .pv (.int .u32) a2 :: .pv (.int .u32) a3 :: .pv (.int .u32) a4 :: .pv (.int .u32) a5 :: .pv (.int .i64) a6 :: dd 150 [])
  | .s6 a0 a1 a2 a3 a4 a5 a6 a7 a8 a9 a10 a11 => dd 3 (.sl 0 none :: .sl 1 none :: .pv (.int .i64) a0 :: .sl 2 none :: .dead :: .pv (.int .u32) a1 :: .pv (.int .u32) a2 :: .pv (.int .u32) a3 :: .pv (.int .u32) a4 :: .pv (.int .u32) a5 :: .pv (.int .i64) a6 :: .pv (.int .u32) a7 :: .pv (.int .u32) a8 :: dd 148 [])
  | .s7 a0 a1 a2 a3 a4 a5 a6 a7 a8 a9 a10 a11 => dd 3 (.sl 0 none :: .sl 1 none :: .pv (.int .i64) a0 :: .sl 2 none :: .dead :: .pv (.int .u32) a1 :: .pv (.int .u32) a2 :: .pv (.int .u32) a3 :: .pv (.int .u32) a4 :: .pv (.int .u32) a5 :: .pv (.int .i64) a6 :: .pv (.int .u32) a7 :: .pv (.int .u32) a8 :: dd 148 [])
noncomputable def f24.hp : f24.St → List Blk
  | .s0 a0 => []
  | .s1 a0 a1 a2 => [.row (.int .u8) a1 5 true, .row (.int .u32) a2 53 false]
  | .s2 a0 a1 a2 a3 a4 => [.row (.int .u8) a2 5 true, .row (.int .u32) a3 53 false, .row (.int .u32) a4 53 false]
  | .s3 a0 a1 a2 a3 a4 => [.row (.int .u8) a2 5 true, .row (.int .u32) a3 53 false, .row (.int .u32) a4 53 true]
  | .s4 a0 a1 a2 a3 a4 a5 a6 a7 a8 a9 => [.row (.int .u8) a7 5 true, .row (.int .u32) a8 53 false, .row (.int .u32) a9 53 false]
  | .s5 a0 a1 a2 a3 a4 a5 a6 a7 a8 a9 => [.row (.int .u8) a7 5 true, .row (.int .u32) a8 53 false, .row (.int .u32) a9 53 true]
  | .s6 a0 a1 a2 a3 a4 a5 a6 a7 a8 a9 a10 a11 => [.row (.int .u8) a9 5 true, .row (.int .u32) a10 53 false, .row (.int .u32) a11 53 false]
  | .s7 a0 a1 a2 a3 a4 a5 a6 a7 a8 a9 a10 a11 => [.row (.int .u8) a9 5 true, .row (.int .u32) a10 53 false, .row (.int .u32) a11 53 true]
noncomputable def f24.step (m : Nat) (K0 : List UInt8 → Option R) (call : f24.St → Option R) : f24.St → Option R
  | .s0 a0 => 
  f47 m a0 (fun (r1 : List Int) =>
   let x2 : List Int := [(1732584193 : Int), (4023233417 : Int), (2562383102 : Int), (271733878 : Int), (3285377520 : Int)]
   call (.s1 (0 : Int) r1 x2))
  | .s1 a0 a1 a2 => 
  bif (decide (a0 < (((List.length a1) : Nat) : Int))) then
   let x1 : Int := IntKind.wrap .i64 (a0 + (64 : Int))
   bif (leB x1 (List.length a1)) then
    bif (leB a0 (Int.toNat x1)) then
     f48 m (List.take ((Int.toNat x1) - (Int.toNat a0)) (List.drop (0 + (Int.toNat a0)) a1)) (fun (r4 : List Int) =>
      call (.s2 a0 (16 : Int) a1 a2 r4)) (fun (r5 : List Int) =>
      call (.s3 a0 (16 : Int) a1 a2 r5))
    else
     none
   else
    none
  else
   f50 m a2 (fun (r6 : List UInt8) =>
    K0 r6)
  | .s2 a0 a1 a2 a3 a4 => 
  bif (decide (a1 < (80 : Int))) then
   let x1 : Int := IntKind.wrap .i64 (a1 - (3 : Int))
   bif (inB x1 (List.length a4)) then
    let x4 : Int := IntKind.wrap .i64 (a1 - (8 : Int))
    bif (inB x4 (List.length a4)) then
     let x8 : Int := IntKind.wrap .i64 (a1 - (14 : Int))
     bif (inB x8 (List.length a4)) then
      let x12 : Int := IntKind.wrap .i64 (a1 - (16 : Int))
      bif (inB x12 (List.length a4)) then
       f49 m (ibits .xor .u32 (ibits .xor .u32 (ibits .xor .u32 (List.getD a4 (Int.toNat x1) (0 : Int)) (List.getD a4 (Int.toNat x4) (0 : Int))) (List.getD a4 (Int.toNat x8) (0 : Int))) (List.getD a4 (Int.toNat x12) (0 : Int))) (1 : Int) (fun (r16 : Int) =>
        let x17 : List Int := [r16]
        bif ((decide (((List.length a4) + (List.length x17)) ≤ LIM)) && (decide ((((List.length a4) + (List.length x17)) * 4) ≤ LIM))) then
         call (.s3 a0 (IntKind.wrap .i64 (a1 + (1 : Int))) a2 a3 (a4 ++ x17))
        else
         none)
      else
       none
     else
      none
    else
     none
   else
    none
  else
   bif (inB (0 : Int) (List.length a3)) then
    bif (inB (1 : Int) (List.length a3)) then
     bif (inB (2 : Int) (List.length a3)) then
      bif (inB (3 : Int) (List.length a3)) then
       bif (inB (4 : Int) (List.length a3)) then
        call (.s4 a0 (List.getD a3 0 (0 : Int)) (List.getD a3 1 (0 : Int)) (List.getD a3 2 (0 : Int)) (List.getD a3 3 (0 : Int)) (List.getD a3 4 (0 : Int)) (0 : Int) a2 a3 a4)
       else
        none
      else
       none
     else
      none
    else
     none
   else
    none
  | .s3 a0 a1 a2 a3 a4 => 
  bif (decide (a1 < (80 : Int))) then
   let x1 : Int := IntKind.wrap .i64 (a1 - (3 : Int))
   bif (inB x1 (List.length a4)) then
    let x4 : Int := IntKind.wrap .i64 (a1 - (8 : Int))
    bif (inB x4 (List.length a4)) then
     let x8 : Int := IntKind.wrap .i64 (a1 - (14 : Int))
     bif (inB x8 (List.length a4)) then
      let x12 : Int := IntKind.wrap .i64 (a1 - (16 : Int))
      bif (inB x12 (List.length a4)) then
       f49 m (ibits .xor .u32 (ibits .xor .u32 (ibits .xor .u32 (List.getD a4 (Int.toNat x1) (0 : Int)) (List.getD a4 (Int.toNat x4) (0 : Int))) (List.getD a4 (Int.toNat x8) (0 : Int))) (List.getD a4 (Int.toNat x12) (0 : Int))) (1 : Int) (fun (r16 : Int) =>
        let x17 : List Int := [r16]
        bif ((decide (((List.length a4) + (List.length x17)) ≤ LIM)) && (decide ((((List.length a4) + (List.length x17)) * 4) ≤ LIM))) then
         call (.s3 a0 (IntKind.wrap .i64 (a1 + (1 : Int))) a2 a3 (a4 ++ x17))
        else
         none)
      else
       none
     else
      none
    else
     none
   else
    none
  else
   bif (inB (0 : Int) (List.length a3)) then
    bif (inB (1 : Int) (List.length a3)) then
     bif (inB (2 : Int) (List.length a3)) then
      bif (inB (3 : Int) (List.length a3)) then
       bif (inB (4 : Int) (List.length a3)) then
        call (.s5 a0 (List.getD a3 0 (0 : Int)) (List.getD a3 1 (0 : Int)) (List.getD a3 2 (0 : Int)) (List.getD a3 3 (0 : Int)) (List.getD a3 4 (0 : Int)) (0 : Int) a2 a3 a4)
       else
        none
      else
       none
     else
      none
    else
     none
   else
    none
  | .s4 a0 a1 a2 a3 a4 a5 a6 a7 a8 a9 => 
  bif (decide (a6 < (80 : Int))) then
   bif (decide (a6 < (60 : Int))) then
    call (.s6 a0 a1 a2 a3 a4 a5 a6 (ibits .or .u32 (ibits .or .u32 (ibits .and .u32 a2 a3) (ibits .and .u32 a2 a4)) (ibits .and .u32 a3 a4)) (2400959708 : Int) a7 a8 a9)
   else
    call (.s6 a0 a1 a2 a3 a4 a5 a6 (ibits .xor .u32 (ibits .xor .u32 a2 a3) a4) (3395469782 : Int) a7 a8 a9)
  else
   bif (inB (0 : Int) (List.length a8)) then
    bif (inB (1 : Int) (List.length a8)) then
     bif (inB (2 : Int) (List.length a8)) then
      bif (inB (3 : Int) (List.length a8)) then
       bif (inB (4 : Int) (List.length a8)) then
        let x18 : List Int := [IntKind.wrap .u32 ((List.getD a8 0 (0 : Int)) + a1), IntKind.wrap .u32 ((List.getD a8 1 (0 : Int)) + a2), IntKind.wrap .u32 ((List.getD a8 2 (0 : Int)) + a3), IntKind.wrap .u32 ((List.getD a8 3 (0 : Int)) + a4), IntKind.wrap .u32 ((List.getD a8 4 (0 : Int)) + a5)]
        call (.s1 (IntKind.wrap .i64 (a0 + (64 : Int))) a7 x18)
       else
        none
      else
       none
     else
      none
    else
     none
   else
    none
  | .s5 a0 a1 a2 a3 a4 a5 a6 a7 a8 a9 => 
  bif (decide (a6 < (80 : Int))) then
   bif (decide (a6 < (60 : Int))) then
    call (.s7 a0 a1 a2 a3 a4 a5 a6 (ibits .or .u32 (ibits .or .u32 (ibits .and .u32 a2 a3) (ibits .and .u32 a2 a4)) (ibits .and .u32 a3 a4)) (2400959708 : Int) a7 a8 a9)
   else
    call (.s7 a0 a1 a2 a3 a4 a5 a6 (ibits .xor .u32 (ibits .xor .u32 a2 a3) a4) (3395469782 : Int) a7 a8 a9)
  else
   bif (inB (0 : Int) (List.length a8)) then
    bif (inB (1 : Int) (List.length a8)) then
     bif (inB (2 : Int) (List.length a8)) then
      bif (inB (3 : Int) (List.length a8)) then
       bif (inB (4 : Int) (List.length a8)) then
        let x18 : List Int := [IntKind.wrap .u32 ((List.getD a8 0 (0 : Int)) + a1), IntKind.wrap .u32 ((List.getD a8 1 (0 : Int)) + a2), IntKind.wrap .u32 ((List.getD a8 2 (0 : Int)) + a3), IntKind.wrap .u32 ((List.getD a8 3 (0 : Int)) + a4), IntKind.wrap .u32 ((List.getD a8 4 (0 : Int)) + a5)]
        call (.s1 (IntKind.wrap .i64 (a0 + (64 : Int))) a7 x18)
       else
        none
      else
       none
     else
      none
    else
     none
   else
    none
  | .s6 a0 a1 a2 a3 a4 a5 a6 a7 a8 a9 a10 a11 => 
  bif (decide (a6 < (40 : Int))) then
   bif (decide (a6 < (20 : Int))) then
    f49 m a1 (5 : Int) (fun (r7 : Int) =>
     bif (inB a6 (List.length a11)) then
      f49 m a2 (30 : Int) (fun (r14 : Int) =>
       call (.s4 a0 (IntKind.wrap .u32 ((IntKind.wrap .u32 ((IntKind.wrap .u32 ((IntKind.wrap .u32 (r7 + (ibits .or .u32 (ibits .and .u32 a2 a3) (ibits .and .u32 (ibits .xor .u32 a2 (4294967295 : Int)) a4)))) + a5)) + (1518500249 : Int))) + (List.getD a11 (Int.toNat a6) (0 : Int)))) a1 r14 a3 a4 (IntKind.wrap .i64 (a6 + (1 : Int))) a9 a10 a11))
     else
      none)
   else
    f49 m a1 (5 : Int) (fun (r16 : Int) =>
     bif (inB a6 (List.length a11)) then
      f49 m a2 (30 : Int) (fun (r23 : Int) =>
       call (.s4 a0 (IntKind.wrap .u32 ((IntKind.wrap .u32 ((IntKind.wrap .u32 ((IntKind.wrap .u32 (r16 + (ibits .xor .u32 (ibits .xor .u32 a2 a3) a4))) + a5)) + (1859775393 : Int))) + (List.getD a11 (Int.toNat a6) (0 : Int)))) a1 r23 a3 a4 (IntKind.wrap .i64 (a6 + (1 : Int))) a9 a10 a11))
     else
      none)
  else
   bif (decide (a6 < (20 : Int))) then
    f49 m a1 (5 : Int) (fun (r29 : Int) =>
     bif (inB a6 (List.length a11)) then
      f49 m a2 (30 : Int) (fun (r36 : Int) =>
       call (.s4 a0 (IntKind.wrap .u32 ((IntKind.wrap .u32 ((IntKind.wrap .u32 ((IntKind.wrap .u32 (r29 + (ibits .or .u32 (ibits .and .u32 a2 a3) (ibits .and .u32 (ibits .xor .u32 a2 (4294967295 : Int)) a4)))) + a5)) + (1518500249 : Int))) + (List.getD a11 (Int.toNat a6) (0 : Int)))) a1 r36 a3 a4 (IntKind.wrap .i64 (a6 + (1 : Int))) a9 a10 a11))
     else
      none)
   else
    f49 m a1 (5 : Int) (fun (r38 : Int) =>
     bif (inB a6 (List.length a11)) then
      f49 m a2 (30 : Int) (fun (r45 : Int) =>
       call (.s4 a0 (IntKind.wrap .u32 ((IntKind.wrap .u32 ((IntKind.wrap .u32 ((IntKind.wrap .u32 (r38 + a7)) + a5)) + a8)) + (List.getD a11 (Int.toNat a6) (0 : Int)))) a1 r45 a3 a4 (IntKind.wrap .i64 (a6 + (1 : Int))) a9 a10 a11))
     else
      none)
  | .s7 a0 a1 a2 a3 a4 a5 a6 a7 a8 a9 a10 a11 => 
  bif (decide (a6 < (40 : Int))) then
   bif (decide (a6 < (20 : Int))) then
    f49 m a1 (5 : Int) (fun (r7 : Int) =>
     bif (inB a6 (List.length a11)) then
      f49 m a2 (30 : Int) (fun (r14 : Int) =>
       call (.s5 a0 (IntKind.wrap .u32 ((IntKind.wrap .u32 ((IntKind.wrap .u32 ((IntKind.wrap .u32 (r7 + (ibits .or .u32 (ibits .and .u32 a2 a3) (ibits .and .u32 (ibits .xor .u32 a2 (4294967295 : Int)) a4)))) + a5)) + (1518500249 : Int))) + (List.getD a11 (Int.toNat a6) (0 : Int)))) a1 r14 a3 a4 (IntKind.wrap .i64 (a6 + (1 : Int))) a9 a10 a11))
     else
      none)
   else
    f49 m a1 (5 : Int) (fun (r16 : Int) =>
     bif (inB a6 (List.length a11)) then
      f49 m a2 (30 : Int) (fun (r23 : Int) =>
       call (.s5 a0 (IntKind.wrap .u32 ((IntKind.wrap .u32 ((IntKind.wrap .u32 ((IntKind.wrap .u32 (r16 + (ibits .xor .u32 (ibits .xor .u32 a2 a3) a4))) + a5)) + (1859775393 : Int))) + (List.getD a11 (Int.toNat a6) (0 : Int)))) a1 r23 a3 a4 (IntKind.wrap .i64 (a6 + (1 : Int))) a9 a10 a11))
     else
      none)
  else
   bif (decide (a6 < (20 : Int))) then
    f49 m a1 (5 : Int) (fun (r29 : Int) =>
     bif (inB a6 (List.length a11)) then
      f49 m a2 (30 : Int) (fun (r36 : Int) =>
       call (.s5 a0 (IntKind.wrap .u32 ((IntKind.wrap .u32 ((IntKind.wrap .u32 ((IntKind.wrap .u32 (r29 + (ibits .or .u32 (ibits .and .u32 a2 a3) (ibits .and .u32 (ibits .xor .u32 a2 (4294967295 : Int)) a4)))) + a5)) + (1518500249 : Int))) + (List.getD a11 (Int.toNat a6) (0 : Int)))) a1 r36 a3 a4 (IntKind.wrap .i64 (a6 + (1 : Int))) a9 a10 a11))
     else
      none)
   else
    f49 m a1 (5 : Int) (fun (r38 : Int) =>
     bif (inB a6 (List.length a11)) then
      f49 m a2 (30 : Int) (fun (r45 : Int) =>
       call (.s5 a0 (IntKind.wrap .u32 ((IntKind.wrap .u32 ((IntKind.wrap .u32 ((IntKind.wrap .u32 (r38 + a7)) + a5)) + a8)) + (List.getD a11 (Int.toNat a6) (0 : Int)))) a1 r45 a3 a4 (IntKind.wrap .i64 (a6 + (1 : Int))) a9 a10 a11))
     else
      none)
noncomputable def f24 (m : Nat) (a0 : List UInt8) (K0 : List UInt8 → Option R) : Option R := iter (f24.step m K0) m (.s0 a0)
noncomputable def f24.pc (m : Nat) (other : Con R) : Con R := pcon [.p (.dat .str)] [] (fun x y K => f24 m (x.1) (fun r0 => K (.pv .str r0) [])) other
noncomputable def f24.ct (m : Nat) (f : Nat) : Option (List Mode × Con R) := match f with
  | 47 => some ([.bor], (f47.pc m ncon))
  | 48 => some ([.bor], (f48.pc m ncon))
  | 50 => some ([.bor], (f50.pc m ncon))
  | 49 => some ([.bor, .bor], (f49.pc m ncon))
  | _ => none
theorem f24.seg (m : Nat) : Seg (f24.ct (R := R) m) f24.C 0 Tryz.f24 (some [some .str]) f24.todo f24.fr f24.hp (fun K => f24.step m (fun r0 => K (.pv .str r0) [])) := fun K call s => by cases s <;> kernel_rfl
theorem pl47 : Plain Tryz.prog 47 := ⟨Tryz.f47, by kernel_rfl, by kernel_rfl, by kernel_rfl⟩
theorem pl48 : Plain Tryz.prog 48 := ⟨Tryz.f48, by kernel_rfl, by kernel_rfl, by kernel_rfl⟩
theorem pl50 : Plain Tryz.prog 50 := ⟨Tryz.f50, by kernel_rfl, by kernel_rfl, by kernel_rfl⟩
theorem pl49 : Plain Tryz.prog 49 := ⟨Tryz.f49, by kernel_rfl, by kernel_rfl, by kernel_rfl⟩
theorem f24.ctok (hl : Laid G H0) (m : Nat) : CtOk G H0 (f24.ct (R := R) m) := by
  intro f ms F h
  unfold f24.ct at h
  split at h
  · exact ctk h pl47 (f47.ok hl m (ncon_ok _))
  · exact ctk h pl48 (f48.ok hl m (ncon_ok _))
  · exact ctk h pl50 (f50.ok hl m (ncon_ok _))
  · exact ctk h pl49 (f49.ok hl m (ncon_ok _))
  · cases h
theorem f24.ok (hl : Laid G H0) (m : Nat) {other : Con R} (ho : FOk Tryz.prog G H0 24 other) : FOk Tryz.prog G H0 24 (f24.pc m other) :=
  seg_ok (c := bodyOf Tryz.f24) (by kernel_rfl) (by kernel_rfl) ho (f24.ctok hl m) m (f24.seg m) (fun x y => .s0 (x.1)) (fun x y K => by kernel_rfl) fun _ _ _ => rfl

noncomputable def f23.C : Cuts := ⟨(fun q => match q with
  | 3 => some { live := [0, 3, 4], adopt := [] }
  | _ => none), (fun _ => none)⟩
inductive f23.St where
  | s0 (a0 : List UInt8)
  | s1 (a0 : List UInt8) (a1 : List UInt8) (a2 : Int)
noncomputable def f23.todo : f23.St → List Item
  | .s0 _ => [.code (bodyOf Tryz.f23)]
  | .s1 _ _ _ => atBef Tryz.f23 3
noncomputable def f23.fr : f23.St → List SV
  | .s0 a0 => .pv .str a0 :: ud 30 []
  | .s1 a0 a1 a2 => .pv .str a0 :: .dead :: .dead :: .pv .str a1 :: .pv (.int .i64) a2 :: dd 26 []
noncomputable def f23.hp : f23.St → List Blk
  | .s0 a0 => []
  | .s1 a0 a1 a2 => []
noncomputable def f23.step (m : Nat) (K0 : List UInt8 → Option R) (call : f23.St → Option R) : f23.St → Option R
  | .s0 a0 => 
  call (.s1 a0 ([] : List UInt8) (0 : Int))
  | .s1 a0 a1 a2 => 
  bif (decide (a2 < (((List.length a0) : Nat) : Int))) then
   bif (inB a2 (List.length a0)) then
    let x1 : Int := ((UInt8.toNat (List.getD a0 (Int.toNat a2) 0) : Nat) : Int)
    let x2 : Int := IntKind.wrap .u8 (Int.tdiv x1 (16 : Int))
    let x4 : Int := IntKind.wrap .u8 ((IntKind.wrap .u8 (Int.tdiv x1 (16 : Int))) + (1 : Int))
    bif (leB x4 16) then
     bif (leB x2 (Int.toNat x4)) then
      let x5 : List UInt8 := List.drop (Int.toNat x2) (List.take (Int.toNat x4) ([48, 49, 50, 51, 52, 53, 54, 55, 56, 57, 97, 98, 99, 100, 101, 102] : List UInt8))
      let x6 : Int := Int.tmod x1 (16 : Int)
      let x8 : Int := IntKind.wrap .u8 ((Int.tmod x1 (16 : Int)) + (1 : Int))
      bif (leB x8 16) then
       bif (leB x6 (Int.toNat x8)) then
        let x9 : List UInt8 := List.drop (Int.toNat x6) (List.take (Int.toNat x8) ([48, 49, 50, 51, 52, 53, 54, 55, 56, 57, 97, 98, 99, 100, 101, 102] : List UInt8))
        bif (decide (((List.length x5) + (List.length x9)) ≤ LIM)) then
         let x10 : List UInt8 := x5 ++ x9
         bif (decide (((List.length a1) + (List.length x10)) ≤ LIM)) then
          call (.s1 a0 (a1 ++ x10) (IntKind.wrap .i64 (a2 + (1 : Int))))
         else
          none
        else
         none
       else
        none
      else
       none
     else
      none
    else
     none
   else
    none
  else
   K0 a1
noncomputable def f23 (m : Nat) (a0 : List UInt8) (K0 : List UInt8 → Option R) : Option R := iter (f23.step m K0) m (.s0 a0)
noncomputable def f23.pc (m : Nat) (other : Con R) : Con R := pcon [.p (.dat .str)] [] (fun x y K => f23 m (x.1) (fun r0 => K (.pv .str r0) [])) other
noncomputable def f23.ct (m : Nat) (f : Nat) : Option (List Mode × Con R) := match f with
  | _ => none
theorem f23.seg (m : Nat) : Seg (f23.ct (R := R) m) f23.C 0 Tryz.f23 (some [some .str]) f23.todo f23.fr f23.hp (fun K => f23.step m (fun r0 => K (.pv .str r0) [])) := fun K call s => by cases s <;> kernel_rfl
theorem f23.ctok (hl : Laid G H0) (m : Nat) : CtOk G H0 (f23.ct (R := R) m) := fun f ms F h => nomatch h
theorem f23.ok (hl : Laid G H0) (m : Nat) {other : Con R} (ho : FOk Tryz.prog G H0 23 other) : FOk Tryz.prog G H0 23 (f23.pc m other) :=
  seg_ok (c := bodyOf Tryz.f23) (by kernel_rfl) (by kernel_rfl) ho (f23.ctok hl m) m (f23.seg m) (fun x y => .s0 (x.1)) (fun x y K => by kernel_rfl) fun _ _ _ => rfl

noncomputable def f8.C : Cuts := ⟨(fun q => match q with
  | _ => none), (fun _ => none)⟩
inductive f8.St where
  | s0 (a0 : Int) (a1 : List UInt8)
noncomputable def f8.todo : f8.St → List Item
  | .s0 _ _ => [.code (bodyOf Tryz.f8)]
noncomputable def f8.fr : f8.St → List SV
  | .s0 a0 a1 => .agg [.pv (.int .i64) a0, .pv .str a1] :: ud 6 []
noncomputable def f8.hp : f8.St → List Blk
  | .s0 a0 a1 => []
noncomputable def f8.step (m : Nat) (K0 : List UInt8 → Option R) (call : f8.St → Option R) : f8.St → Option R
  | .s0 a0 a1 => 
  f11 m a0 a1 (fun (r1 : List UInt8) =>
   f24 m r1 (fun (r2 : List UInt8) =>
    f23 m r2 (fun (r3 : List UInt8) =>
     K0 r3)))
noncomputable def f8 (m : Nat) (a0 : Int) (a1 : List UInt8) (K0 : List UInt8 → Option R) : Option R := iter (f8.step m K0) m (.s0 a0 a1)
noncomputable def f8.pc (m : Nat) (other : Con R) : Con R := pcon [.p (.dat (.prod (.int .i64) .str))] [] (fun x y K => f8 m (x.1.1) (x.1.2) (fun r0 => K (.pv .str r0) [])) other
noncomputable def f8.ct (m : Nat) (f : Nat) : Option (List Mode × Con R) := match f with
  | 11 => some ([.bor], (f11.pc m ncon))
  | 24 => some ([.bor], (f24.pc m ncon))
  | 23 => some ([.bor], (f23.pc m ncon))
  | _ => none
theorem f8.seg (m : Nat) : Seg (f8.ct (R := R) m) f8.C 0 Tryz.f8 (some [some .str]) f8.todo f8.fr f8.hp (fun K => f8.step m (fun r0 => K (.pv .str r0) [])) := fun K call s => by cases s <;> kernel_rfl
theorem pl11 : Plain Tryz.prog 11 := ⟨Tryz.f11, by kernel_rfl, by kernel_rfl, by kernel_rfl⟩
theorem pl24 : Plain Tryz.prog 24 := ⟨Tryz.f24, by kernel_rfl, by kernel_rfl, by kernel_rfl⟩
theorem pl23 : Plain Tryz.prog 23 := ⟨Tryz.f23, by kernel_rfl, by kernel_rfl, by kernel_rfl⟩
theorem f8.ctok (hl : Laid G H0) (m : Nat) : CtOk G H0 (f8.ct (R := R) m) := by
  intro f ms F h
  unfold f8.ct at h
  split at h
  · exact ctk h pl11 (f11.ok hl m (ncon_ok _))
  · exact ctk h pl24 (f24.ok hl m (ncon_ok _))
  · exact ctk h pl23 (f23.ok hl m (ncon_ok _))
  · cases h
theorem f8.ok (hl : Laid G H0) (m : Nat) {other : Con R} (ho : FOk Tryz.prog G H0 8 other) : FOk Tryz.prog G H0 8 (f8.pc m other) :=
  seg_ok (c := bodyOf Tryz.f8) (by kernel_rfl) (by kernel_rfl) ho (f8.ctok hl m) m (f8.seg m) (fun x y => .s0 (x.1.1) (x.1.2)) (fun x y K => by kernel_rfl) fun _ _ _ => rfl

noncomputable def f25.C : Cuts := ⟨(fun q => match q with
  | _ => none), (fun _ => none)⟩
inductive f25.St where
  | s0 (a0 : Int) (a1 : Int)
noncomputable def f25.todo : f25.St → List Item
  | .s0 _ _ => [.code (bodyOf Tryz.f25)]
noncomputable def f25.fr : f25.St → List SV
  | .s0 a0 a1 => .pv (.int .i64) a0 :: .pv (.int .i64) a1 :: ud 25 []
noncomputable def f25.hp : f25.St → List Blk
  | .s0 a0 a1 => []
noncomputable def f25.step (m : Nat) (K0 : Bool → Option R) (call : f25.St → Option R) : f25.St → Option R
  | .s0 a0 a1 => 
  bif (decide ((Int.tmod a0 (16 : Int)) = (8 : Int))) then
   bif (decide ((IntKind.wrap .i64 (Int.tdiv a0 (16 : Int))) ≤ (7 : Int))) then
    bif (decide ((Int.tmod (IntKind.wrap .i64 ((IntKind.wrap .i64 ((256 : Int) * a0)) + a1)) (31 : Int)) = (0 : Int))) then
     K0 (decide ((Int.tmod (IntKind.wrap .i64 (Int.tdiv a1 (32 : Int))) (2 : Int)) = (0 : Int)))
    else
     K0 false
   else
    K0 false
  else
   K0 false
noncomputable def f25 (m : Nat) (a0 : Int) (a1 : Int) (K0 : Bool → Option R) : Option R := iter (f25.step m K0) m (.s0 a0 a1)
noncomputable def f25.pc (m : Nat) (other : Con R) : Con R := pcon [.p (.dat (.int .i64)), .p (.dat (.int .i64))] [] (fun x y K => f25 m (x.1) (x.2.1) (fun r0 => K (.pv .bool r0) [])) other
noncomputable def f25.ct (m : Nat) (f : Nat) : Option (List Mode × Con R) := match f with
  | _ => none
theorem f25.seg (m : Nat) : Seg (f25.ct (R := R) m) f25.C 0 Tryz.f25 (some [some .bool]) f25.todo f25.fr f25.hp (fun K => f25.step m (fun r0 => K (.pv .bool r0) [])) := fun K call s => by cases s <;> kernel_rfl
theorem f25.ctok (hl : Laid G H0) (m : Nat) : CtOk G H0 (f25.ct (R := R) m) := fun f ms F h => nomatch h
theorem f25.ok (hl : Laid G H0) (m : Nat) {other : Con R} (ho : FOk Tryz.prog G H0 25 other) : FOk Tryz.prog G H0 25 (f25.pc m other) :=
  seg_ok (c := bodyOf Tryz.f25) (by kernel_rfl) (by kernel_rfl) ho (f25.ctok hl m) m (f25.seg m) (fun x y => .s0 (x.1) (x.2.1)) (fun x y K => by kernel_rfl) fun _ _ _ => rfl

noncomputable def f51.C : Cuts := ⟨(fun q => match q with
  | 3 => some { live := [0, 3, 4], adopt := [] }
  | 6 => some { live := [0, 3, 4, 5], adopt := [] }
  | _ => none), (fun _ => none)⟩
inductive f51.St where
  | s0 (a0 : List UInt8)
  | s1 (a0 : List UInt8) (a1 : Int) (a2 : List Bool)
  | s2 (a0 : List UInt8) (a1 : Int) (a2 : Int) (a3 : List Bool)
  | s3 (a0 : List UInt8) (a1 : Int) (a2 : Int) (a3 : List Bool)
  | s4 (a0 : List UInt8) (a1 : Int) (a2 : List Bool)
noncomputable def f51.todo : f51.St → List Item
  | .s0 _ => [.code (bodyOf Tryz.f51)]
  | .s1 _ _ _ => atBef Tryz.f51 3
  | .s2 _ _ _ _ => atBef Tryz.f51 6
  | .s3 _ _ _ _ => atBef Tryz.f51 6
  | .s4 _ _ _ => atBef Tryz.f51 3
noncomputable def f51.fr : f51.St → List SV
  | .s0 a0 => .pv .str a0 :: ud 27 []
  | .s1 a0 a1 a2 => .pv .str a0 :: .dead :: .dead :: .sl 0 none :: .pv (.int .i64) a1 :: dd 23 []
  | .s2 a0 a1 a2 a3 => .pv .str a0 :: .dead :: .dead :: .sl 0 none :: .pv (.int .i64) a1 :: .pv (.int .i64) a2 :: dd 22 []
  | .s3 a0 a1 a2 a3 => .pv .str a0 :: .dead :: .dead :: .sl 0 none :: .pv (.int .i64) a1 :: .pv (.int .i64) a2 :: dd 22 []
  | .s4 a0 a1 a2 => .pv .str a0 :: .dead :: .dead :: .sl 0 none :: .pv (.int .i64) a1 :: dd 23 []
noncomputable def f51.hp : f51.St → List Blk
  | .s0 a0 => []
  | .s1 a0 a1 a2 => [.row .bool a2 4 false]
  | .s2 a0 a1 a2 a3 => [.row .bool a3 4 false]
  | .s3 a0 a1 a2 a3 => [.row .bool a3 4 true]
  | .s4 a0 a1 a2 => [.row .bool a2 4 true]
noncomputable def f51.step (m : Nat) (K0 : List Bool → Option R) (call : f51.St → Option R) : f51.St → Option R
  | .s0 a0 => 
  call (.s1 a0 (0 : Int) ([] : List Bool))
  | .s1 a0 a1 a2 => 
  bif (decide (a1 < (((List.length a0) : Nat) : Int))) then
   call (.s2 a0 a1 (0 : Int) a2)
  else
   K0 a2
  | .s2 a0 a1 a2 a3 => 
  bif (decide (a2 < (8 : Int))) then
   bif (inB a1 (List.length a0)) then
    bif (decide ((0 : Int) ≤ a2)) then
     let x4 : List Bool := [decide ((ibits .and .u8 (Int.fdiv ((UInt8.toNat (List.getD a0 (Int.toNat a1) 0) : Nat) : Int) ((2 : Int) ^ (min (Int.toNat a2) 8))) (1 : Int)) = (1 : Int))]
     bif ((decide (((List.length a3) + (List.length x4)) ≤ LIM)) && (decide ((((List.length a3) + (List.length x4)) * 1) ≤ LIM))) then
      call (.s3 a0 a1 (IntKind.wrap .i64 (a2 + (1 : Int))) (a3 ++ x4))
     else
      none
    else
     none
   else
    none
  else
   call (.s1 a0 (IntKind.wrap .i64 (a1 + (1 : Int))) a3)
  | .s3 a0 a1 a2 a3 => 
  bif (decide (a2 < (8 : Int))) then
   bif (inB a1 (List.length a0)) then
    bif (decide ((0 : Int) ≤ a2)) then
     let x4 : List Bool := [decide ((ibits .and .u8 (Int.fdiv ((UInt8.toNat (List.getD a0 (Int.toNat a1) 0) : Nat) : Int) ((2 : Int) ^ (min (Int.toNat a2) 8))) (1 : Int)) = (1 : Int))]
     bif ((decide (((List.length a3) + (List.length x4)) ≤ LIM)) && (decide ((((List.length a3) + (List.length x4)) * 1) ≤ LIM))) then
      call (.s3 a0 a1 (IntKind.wrap .i64 (a2 + (1 : Int))) (a3 ++ x4))
     else
      none
    else
     none
   else
    none
  else
   call (.s4 a0 (IntKind.wrap .i64 (a1 + (1 : Int))) a3)
  | .s4 a0 a1 a2 => 
  bif (decide (a1 < (((List.length a0) : Nat) : Int))) then
   call (.s3 a0 a1 (0 : Int) a2)
  else
   K0 a2
noncomputable def f51 (m : Nat) (a0 : List UInt8) (K0 : List Bool → Option R) : Option R := iter (f51.step m K0) m (.s0 a0)
noncomputable def f51.pc (m : Nat) (other : Con R) : Con R := pcon [.p (.dat .str)] [] (fun x y K => f51 m (x.1) (fun r0 => K (.pv (.sl .bool) r0) [])) other
noncomputable def f51.ct (m : Nat) (f : Nat) : Option (List Mode × Con R) := match f with
  | _ => none
theorem f51.seg (m : Nat) : Seg (f51.ct (R := R) m) f51.C 0 Tryz.f51 (some [some (.sl .bool)]) f51.todo f51.fr f51.hp (fun K => f51.step m (fun r0 => K (.pv (.sl .bool) r0) [])) := fun K call s => by cases s <;> kernel_rfl
theorem f51.ctok (hl : Laid G H0) (m : Nat) : CtOk G H0 (f51.ct (R := R) m) := fun f ms F h => nomatch h
theorem f51.ok (hl : Laid G H0) (m : Nat) {other : Con R} (ho : FOk Tryz.prog G H0 51 other) : FOk Tryz.prog G H0 51 (f51.pc m other) :=
  seg_ok (c := bodyOf Tryz.f51) (by kernel_rfl) (by kernel_rfl) ho (f51.ctok hl m) m (f51.seg m) (fun x y => .s0 (x.1)) (fun x y K => by kernel_rfl) fun _ _ _ => rfl

end Go.AM
