/- The same, on. -/
import Derived.Test.YtidncoebfnabcaaGreatDoorG1
set_option linter.unusedVariables false
set_option maxRecDepth 100000
namespace Go.AM
open Go.Proofs
variable {R : Type} {G : Nat} {H0 : Array Obj}
noncomputable def f28.C : Cuts := ⟨(fun q => match q with
  | 3 => some { live := [0, 3, 4, 5], adopt := [] }
  | _ => none), (fun _ => none)⟩
inductive f28.St where
  | s0 (a0 : List UInt8)
  | s1 (a0 : List UInt8) (a1 : Int) (a2 : Int) (a3 : Int)
noncomputable def f28.todo : f28.St → List Item
  | .s0 _ => [.code (bodyOf Tryz.f28)]
  | .s1 _ _ _ _ => atBef Tryz.f28 3
noncomputable def f28.fr : f28.St → List SV
  | .s0 a0 => .pv .str a0 :: ud 27 []
  | .s1 a0 a1 a2 a3 => .pv .str a0 :: .dead :: .dead :: .pv (.int .i64) a1 :: .pv (.int .i64) a2 :: .pv (.int .i64) a3 :: dd 22 []
noncomputable def f28.hp : f28.St → List Blk
  | .s0 a0 => []
  | .s1 a0 a1 a2 a3 => []
noncomputable def f28.step (m : Nat) (K0 : Int → Option R) (call : f28.St → Option R) : f28.St → Option R
  | .s0 a0 => 
  call (.s1 a0 (1 : Int) (0 : Int) (0 : Int))
  | .s1 a0 a1 a2 a3 => 
  bif (decide (a3 < (((List.length a0) : Nat) : Int))) then
   bif (inB a3 (List.length a0)) then
    let x4 : Int := Int.tmod (IntKind.wrap .i64 (a1 + (IntKind.wrap .i64 ((UInt8.toNat (List.getD a0 (Int.toNat a3) 0) : Nat) : Int)))) (65521 : Int)
    call (.s1 a0 x4 (Int.tmod (IntKind.wrap .i64 (a2 + x4)) (65521 : Int)) (IntKind.wrap .i64 (a3 + (1 : Int))))
   else
    none
  else
   K0 (IntKind.wrap .u32 (IntKind.wrap .i64 ((IntKind.wrap .i64 ((65536 : Int) * a2)) + a1)))
noncomputable def f28 (m : Nat) (a0 : List UInt8) (K0 : Int → Option R) : Option R := iter (f28.step m K0) m (.s0 a0)
noncomputable def f28.pc (m : Nat) (other : Con R) : Con R := pcon [.p (.dat .str)] [] (fun x y K => f28 m (x.1) (fun r0 => K (.pv (.int .u32) r0) [])) other
noncomputable def f28.ct (m : Nat) (f : Nat) : Option (List Mode × Con R) := match f with
  | _ => none
theorem f28.seg (m : Nat) : Seg (f28.ct (R := R) m) f28.C 0 Tryz.f28 (some [some (.int .u32)]) f28.todo f28.fr f28.hp (fun K => f28.step m (fun r0 => K (.pv (.int .u32) r0) [])) := fun K call s => by cases s <;> kernel_rfl
theorem f28.ctok (hl : Laid G H0) (m : Nat) : CtOk G H0 (f28.ct (R := R) m) := fun f ms F h => nomatch h
theorem f28.ok (hl : Laid G H0) (m : Nat) {other : Con R} (ho : FOk Tryz.prog G H0 28 other) : FOk Tryz.prog G H0 28 (f28.pc m other) :=
  seg_ok (c := bodyOf Tryz.f28) (by kernel_rfl) (by kernel_rfl) ho (f28.ctok hl m) m (f28.seg m) (fun x y => .s0 (x.1)) (fun x y K => by kernel_rfl) fun _ _ _ => rfl

noncomputable def f60.C : Cuts := ⟨(fun q => match q with
  | 3 => some { live := [0, 1, 5, 6], adopt := [] }
  | _ => none), (fun _ => none)⟩
inductive f60.St where
  | s0 (a0 : Int) (a1 : Int)
  | s1 (a0 : Int) (a1 : Int) (a2 : Int) (a3 : List Int)
  | s2 (a0 : Int) (a1 : Int) (a2 : Int) (a3 : List Int)
noncomputable def f60.todo : f60.St → List Item
  | .s0 _ _ => [.code (bodyOf Tryz.f60)]
  | .s1 _ _ _ _ => atBef Tryz.f60 3
  | .s2 _ _ _ _ => atBef Tryz.f60 3
noncomputable def f60.fr : f60.St → List SV
  | .s0 a0 a1 => .pv (.int .u64) a0 :: .pv (.int .i64) a1 :: ud 21 []
  | .s1 a0 a1 a2 a3 => .pv (.int .u64) a0 :: .pv (.int .i64) a1 :: dd 3 (.sl 0 none :: .pv (.int .i64) a2 :: dd 16 [])
  | .s2 a0 a1 a2 a3 => .pv (.int .u64) a0 :: .pv (.int .i64) a1 :: dd 3 (.sl 0 none :: .pv (.int .i64) a2 :: dd 16 [])
noncomputable def f60.hp : f60.St → List Blk
  | .s0 a0 a1 => []
  | .s1 a0 a1 a2 a3 => [.row (.int .u8) a3 5 false]
  | .s2 a0 a1 a2 a3 => [.row (.int .u8) a3 5 true]
noncomputable def f60.step (m : Nat) (K0 : List UInt8 → Option R) (call : f60.St → Option R) : f60.St → Option R
  | .s0 a0 a1 => 
  call (.s1 a0 a1 (0 : Int) ([] : List Int))
  | .s1 a0 a1 a2 a3 => 
  bif (decide (a2 < a1)) then
   let x3 : List Int := [IntKind.wrap .u8 (Int.tmod a0 (256 : Int))]
   bif ((decide (((List.length a3) + (List.length x3)) ≤ LIM)) && (decide ((((List.length a3) + (List.length x3)) * 1) ≤ LIM))) then
    call (.s2 (IntKind.wrap .u64 (Int.tdiv a0 (256 : Int))) a1 (IntKind.wrap .i64 (a2 + (1 : Int))) (a3 ++ x3))
   else
    none
  else
   K0 (bytesOf a3)
  | .s2 a0 a1 a2 a3 => 
  bif (decide (a2 < a1)) then
   let x3 : List Int := [IntKind.wrap .u8 (Int.tmod a0 (256 : Int))]
   bif ((decide (((List.length a3) + (List.length x3)) ≤ LIM)) && (decide ((((List.length a3) + (List.length x3)) * 1) ≤ LIM))) then
    call (.s2 (IntKind.wrap .u64 (Int.tdiv a0 (256 : Int))) a1 (IntKind.wrap .i64 (a2 + (1 : Int))) (a3 ++ x3))
   else
    none
  else
   K0 (bytesOf a3)
noncomputable def f60 (m : Nat) (a0 : Int) (a1 : Int) (K0 : List UInt8 → Option R) : Option R := iter (f60.step m K0) m (.s0 a0 a1)
noncomputable def f60.pc (m : Nat) (other : Con R) : Con R := pcon [.p (.dat (.int .u64)), .p (.dat (.int .i64))] [] (fun x y K => f60 m (x.1) (x.2.1) (fun r0 => K (.pv .str r0) [])) other
noncomputable def f60.ct (m : Nat) (f : Nat) : Option (List Mode × Con R) := match f with
  | _ => none
theorem f60.seg (m : Nat) : Seg (f60.ct (R := R) m) f60.C 0 Tryz.f60 (some [some .str]) f60.todo f60.fr f60.hp (fun K => f60.step m (fun r0 => K (.pv .str r0) [])) := fun K call s => by cases s <;> kernel_rfl
theorem f60.ctok (hl : Laid G H0) (m : Nat) : CtOk G H0 (f60.ct (R := R) m) := fun f ms F h => nomatch h
theorem f60.ok (hl : Laid G H0) (m : Nat) {other : Con R} (ho : FOk Tryz.prog G H0 60 other) : FOk Tryz.prog G H0 60 (f60.pc m other) :=
  seg_ok (c := bodyOf Tryz.f60) (by kernel_rfl) (by kernel_rfl) ho (f60.ctok hl m) m (f60.seg m) (fun x y => .s0 (x.1) (x.2.1)) (fun x y K => by kernel_rfl) fun _ _ _ => rfl

noncomputable def f59.C : Cuts := ⟨(fun q => match q with
  | 3 => some { live := [0, 3, 4], adopt := [] }
  | _ => none), (fun _ => none)⟩
inductive f59.St where
  | s0 (a0 : List UInt8)
  | s1 (a0 : List UInt8) (a1 : Int) (a2 : List Int)
  | s2 (a0 : List UInt8) (a1 : Int) (a2 : List Int)
noncomputable def f59.todo : f59.St → List Item
  | .s0 _ => [.code (bodyOf Tryz.f59)]
  | .s1 _ _ _ => atBef Tryz.f59 3
  | .s2 _ _ _ => atBef Tryz.f59 3
noncomputable def f59.fr : f59.St → List SV
  | .s0 a0 => .pv .str a0 :: ud 20 []
  | .s1 a0 a1 a2 => .pv .str a0 :: .dead :: .dead :: .sl 0 none :: .pv (.int .i64) a1 :: dd 16 []
  | .s2 a0 a1 a2 => .pv .str a0 :: .dead :: .dead :: .sl 0 none :: .pv (.int .i64) a1 :: dd 16 []
noncomputable def f59.hp : f59.St → List Blk
  | .s0 a0 => []
  | .s1 a0 a1 a2 => [.row (.int .u8) a2 5 false]
  | .s2 a0 a1 a2 => [.row (.int .u8) a2 5 true]
noncomputable def f59.step (m : Nat) (K0 : List UInt8 → Option R) (call : f59.St → Option R) : f59.St → Option R
  | .s0 a0 => 
  call (.s1 a0 (IntKind.wrap .i64 ((((List.length a0) : Nat) : Int) - (1 : Int))) ([] : List Int))
  | .s1 a0 a1 a2 => 
  bif (decide ((0 : Int) ≤ a1)) then
   bif (inB a1 (List.length a0)) then
    let x2 : List Int := [((UInt8.toNat (List.getD a0 (Int.toNat a1) 0) : Nat) : Int)]
    bif ((decide (((List.length a2) + (List.length x2)) ≤ LIM)) && (decide ((((List.length a2) + (List.length x2)) * 1) ≤ LIM))) then
     call (.s2 a0 (IntKind.wrap .i64 (a1 - (1 : Int))) (a2 ++ x2))
    else
     none
   else
    none
  else
   K0 (bytesOf a2)
  | .s2 a0 a1 a2 => 
  bif (decide ((0 : Int) ≤ a1)) then
   bif (inB a1 (List.length a0)) then
    let x2 : List Int := [((UInt8.toNat (List.getD a0 (Int.toNat a1) 0) : Nat) : Int)]
    bif ((decide (((List.length a2) + (List.length x2)) ≤ LIM)) && (decide ((((List.length a2) + (List.length x2)) * 1) ≤ LIM))) then
     call (.s2 a0 (IntKind.wrap .i64 (a1 - (1 : Int))) (a2 ++ x2))
    else
     none
   else
    none
  else
   K0 (bytesOf a2)
noncomputable def f59 (m : Nat) (a0 : List UInt8) (K0 : List UInt8 → Option R) : Option R := iter (f59.step m K0) m (.s0 a0)
noncomputable def f59.pc (m : Nat) (other : Con R) : Con R := pcon [.p (.dat .str)] [] (fun x y K => f59 m (x.1) (fun r0 => K (.pv .str r0) [])) other
noncomputable def f59.ct (m : Nat) (f : Nat) : Option (List Mode × Con R) := match f with
  | _ => none
theorem f59.seg (m : Nat) : Seg (f59.ct (R := R) m) f59.C 0 Tryz.f59 (some [some .str]) f59.todo f59.fr f59.hp (fun K => f59.step m (fun r0 => K (.pv .str r0) [])) := fun K call s => by cases s <;> kernel_rfl
theorem f59.ctok (hl : Laid G H0) (m : Nat) : CtOk G H0 (f59.ct (R := R) m) := fun f ms F h => nomatch h
theorem f59.ok (hl : Laid G H0) (m : Nat) {other : Con R} (ho : FOk Tryz.prog G H0 59 other) : FOk Tryz.prog G H0 59 (f59.pc m other) :=
  seg_ok (c := bodyOf Tryz.f59) (by kernel_rfl) (by kernel_rfl) ho (f59.ctok hl m) m (f59.seg m) (fun x y => .s0 (x.1)) (fun x y K => by kernel_rfl) fun _ _ _ => rfl

noncomputable def f27.C : Cuts := ⟨(fun q => match q with
  | _ => none), (fun _ => none)⟩
inductive f27.St where
  | s0 (a0 : Int) (a1 : Int)
noncomputable def f27.todo : f27.St → List Item
  | .s0 _ _ => [.code (bodyOf Tryz.f27)]
noncomputable def f27.fr : f27.St → List SV
  | .s0 a0 a1 => .pv (.int .u64) a0 :: .pv (.int .i64) a1 :: ud 7 []
noncomputable def f27.hp : f27.St → List Blk
  | .s0 a0 a1 => []
noncomputable def f27.step (m : Nat) (K0 : List UInt8 → Option R) (call : f27.St → Option R) : f27.St → Option R
  | .s0 a0 a1 => 
  f60 m a0 a1 (fun (r1 : List UInt8) =>
   f59 m r1 (fun (r2 : List UInt8) =>
    K0 r2))
noncomputable def f27 (m : Nat) (a0 : Int) (a1 : Int) (K0 : List UInt8 → Option R) : Option R := iter (f27.step m K0) m (.s0 a0 a1)
noncomputable def f27.pc (m : Nat) (other : Con R) : Con R := pcon [.p (.dat (.int .u64)), .p (.dat (.int .i64))] [] (fun x y K => f27 m (x.1) (x.2.1) (fun r0 => K (.pv .str r0) [])) other
noncomputable def f27.ct (m : Nat) (f : Nat) : Option (List Mode × Con R) := match f with
  | 60 => some ([.bor, .bor], (f60.pc m ncon))
  | 59 => some ([.bor], (f59.pc m ncon))
  | _ => none
theorem f27.seg (m : Nat) : Seg (f27.ct (R := R) m) f27.C 0 Tryz.f27 (some [some .str]) f27.todo f27.fr f27.hp (fun K => f27.step m (fun r0 => K (.pv .str r0) [])) := fun K call s => by cases s <;> kernel_rfl
theorem pl60 : Plain Tryz.prog 60 := ⟨Tryz.f60, by kernel_rfl, by kernel_rfl, by kernel_rfl⟩
theorem pl59 : Plain Tryz.prog 59 := ⟨Tryz.f59, by kernel_rfl, by kernel_rfl, by kernel_rfl⟩
theorem f27.ctok (hl : Laid G H0) (m : Nat) : CtOk G H0 (f27.ct (R := R) m) := by
  intro f ms F h
  unfold f27.ct at h
  split at h
  · exact ctk h pl60 (f60.ok hl m (ncon_ok _))
  · exact ctk h pl59 (f59.ok hl m (ncon_ok _))
  · cases h
theorem f27.ok (hl : Laid G H0) (m : Nat) {other : Con R} (ho : FOk Tryz.prog G H0 27 other) : FOk Tryz.prog G H0 27 (f27.pc m other) :=
  seg_ok (c := bodyOf Tryz.f27) (by kernel_rfl) (by kernel_rfl) ho (f27.ctok hl m) m (f27.seg m) (fun x y => .s0 (x.1) (x.2.1)) (fun x y K => by kernel_rfl) fun _ _ _ => rfl

noncomputable def f9.C : Cuts := ⟨(fun q => match q with
  | 2 => some { live := [], adopt := [] }
  | _ => none), (fun _ => none)⟩
inductive f9.St where
  | s0 (a0 : List UInt8) (a1 : Int) (a2 : Int)
  | s1
noncomputable def f9.todo : f9.St → List Item
  | .s0 _ _ _ => [.code (bodyOf Tryz.f9)]
  | .s1 => atBef Tryz.f9 2
noncomputable def f9.fr : f9.St → List SV
  | .s0 a0 a1 a2 => .pv .str a0 :: .pv (.int .i64) a1 :: .pv (.int .i64) a2 :: ud 73 []
  | .s1 => dd 76 []
noncomputable def f9.hp : f9.St → List Blk
  | .s0 a0 a1 a2 => []
  | .s1 => []
noncomputable def f9.step (m : Nat) (K0 : List UInt8 → Int → Int → Option R) (call : f9.St → Option R) : f9.St → Option R
  | .s0 a0 a1 a2 => 
  bif (!(decide (a1 < (0 : Int)))) then
   bif (!(decide ((((List.length a0) : Nat) : Int) < a1))) then
    bif (!(decide (a2 < (0 : Int)))) then
     bif (decide ((65536 : Int) < a2)) then
      call (.s1)
     else
      bif (decide ((IntKind.wrap .i64 ((((List.length a0) : Nat) : Int) - a1)) < (2 : Int))) then
       K0 ([] : List UInt8) (0 : Int) (6 : Int)
      else
       bif (inB a1 (List.length a0)) then
        let x4 : Int := IntKind.wrap .i64 (a1 + (1 : Int))
        bif (inB x4 (List.length a0)) then
         f25 m (IntKind.wrap .i64 ((UInt8.toNat (List.getD a0 (Int.toNat a1) 0) : Nat) : Int)) (IntKind.wrap .i64 ((UInt8.toNat (List.getD a0 (Int.toNat x4) 0) : Nat) : Int)) (fun (r7 : Bool) =>
          bif (!r7) then
           K0 ([] : List UInt8) (0 : Int) (3 : Int)
          else
           f26 m a0 (IntKind.wrap .i64 (a1 + (2 : Int))) a2 (fun (r10 : List UInt8) (r11 : Int) (r12 : Int) =>
            bif (!(decide (r12 = (0 : Int)))) then
             K0 ([] : List UInt8) (0 : Int) r12
            else
             let x15 : Int := IntKind.wrap .i64 ((IntKind.wrap .i64 (a1 + (2 : Int))) + r11)
             bif (leB x15 (List.length a0)) then
              let x16 : List UInt8 := List.drop (Int.toNat x15) a0
              bif (decide ((((List.length x16) : Nat) : Int) < (4 : Int))) then
               K0 ([] : List UInt8) (0 : Int) (6 : Int)
              else
               bif (leB (4 : Int) (List.length x16)) then
                f28 m r10 (fun (r18 : Int) =>
                 f27 m (IntKind.wrap .u64 r18) (4 : Int) (fun (r20 : List UInt8) =>
                  bif (!(decide ((List.take 4 x16) = r20))) then
                   K0 ([] : List UInt8) (0 : Int) (5 : Int)
                  else
                   K0 r10 (IntKind.wrap .i64 (r11 + (6 : Int))) (0 : Int)))
               else
                none
             else
              none))
        else
         none
       else
        none
    else
     call (.s1)
   else
    call (.s1)
  else
   call (.s1)
  | .s1 => 
  K0 ([] : List UInt8) (0 : Int) (1 : Int)
noncomputable def f9 (m : Nat) (a0 : List UInt8) (a1 : Int) (a2 : Int) (K0 : List UInt8 → Int → Int → Option R) : Option R := iter (f9.step m K0) m (.s0 a0 a1 a2)
noncomputable def f9.pc (m : Nat) (other : Con R) : Con R := pcon [.p (.dat .str), .p (.dat (.int .i64)), .p (.dat (.int .i64))] [] (fun x y K => f9 m (x.1) (x.2.1) (x.2.2.1) (fun r0 r1 r2 => K (.tup [.pv .str r0, .pv (.int .i64) r1, .pv (.int .i64) r2]) [])) other
noncomputable def f9.ct (m : Nat) (f : Nat) : Option (List Mode × Con R) := match f with
  | 25 => some ([.bor, .bor], (f25.pc m ncon))
  | 26 => some ([.bor, .bor, .bor], (f26.pc m ncon))
  | 28 => some ([.bor], (f28.pc m ncon))
  | 27 => some ([.bor, .bor], (f27.pc m ncon))
  | _ => none
theorem f9.seg (m : Nat) : Seg (f9.ct (R := R) m) f9.C 0 Tryz.f9 (some [some .str, some (.int .i64), some (.int .i64)]) f9.todo f9.fr f9.hp (fun K => f9.step m (fun r0 r1 r2 => K (.tup [.pv .str r0, .pv (.int .i64) r1, .pv (.int .i64) r2]) [])) := fun K call s => by cases s <;> kernel_rfl
theorem pl25 : Plain Tryz.prog 25 := ⟨Tryz.f25, by kernel_rfl, by kernel_rfl, by kernel_rfl⟩
theorem pl26 : Plain Tryz.prog 26 := ⟨Tryz.f26, by kernel_rfl, by kernel_rfl, by kernel_rfl⟩
theorem pl28 : Plain Tryz.prog 28 := ⟨Tryz.f28, by kernel_rfl, by kernel_rfl, by kernel_rfl⟩
theorem pl27 : Plain Tryz.prog 27 := ⟨Tryz.f27, by kernel_rfl, by kernel_rfl, by kernel_rfl⟩
theorem f9.ctok (hl : Laid G H0) (m : Nat) : CtOk G H0 (f9.ct (R := R) m) := by
  intro f ms F h
  unfold f9.ct at h
  split at h
  · exact ctk h pl25 (f25.ok hl m (ncon_ok _))
  · exact ctk h pl26 (f26.ok hl m (ncon_ok _))
  · exact ctk h pl28 (f28.ok hl m (ncon_ok _))
  · exact ctk h pl27 (f27.ok hl m (ncon_ok _))
  · cases h
theorem f9.ok (hl : Laid G H0) (m : Nat) {other : Con R} (ho : FOk Tryz.prog G H0 9 other) : FOk Tryz.prog G H0 9 (f9.pc m other) :=
  seg_ok (c := bodyOf Tryz.f9) (by kernel_rfl) (by kernel_rfl) ho (f9.ctok hl m) m (f9.seg m) (fun x y => .s0 (x.1) (x.2.1) (x.2.2.1)) (fun x y K => by kernel_rfl) fun _ _ _ => rfl

noncomputable def f10.C : Cuts := ⟨(fun q => match q with
  | _ => none), (fun _ => none)⟩
inductive f10.St where
  | s0 (a0 : List UInt8)
noncomputable def f10.todo : f10.St → List Item
  | .s0 _ => [.code (bodyOf Tryz.f10)]
noncomputable def f10.fr : f10.St → List SV
  | .s0 a0 => .pv .str a0 :: ud 9 []
noncomputable def f10.hp : f10.St → List Blk
  | .s0 a0 => []
noncomputable def f10.step (m : Nat) (K0 : List UInt8 → Option R) (call : f10.St → Option R) : f10.St → Option R
  | .s0 a0 => 
  bif (leB (2 : Int) (List.length a0)) then
   let x1 : List UInt8 := List.take 2 a0
   bif (decide ((8 + (List.length x1)) ≤ LIM)) then
    let x2 : List UInt8 := ([111, 98, 106, 101, 99, 116, 115, 47] : List UInt8) ++ x1
    bif (decide (((List.length x2) + 1) ≤ LIM)) then
     let x3 : List UInt8 := x2 ++ ([47] : List UInt8)
     bif (leB (2 : Int) (List.length a0)) then
      let x4 : List UInt8 := List.drop 2 a0
      bif (decide (((List.length x3) + (List.length x4)) ≤ LIM)) then
       K0 (x3 ++ x4)
      else
       none
     else
      none
    else
     none
   else
    none
  else
   none
noncomputable def f10 (m : Nat) (a0 : List UInt8) (K0 : List UInt8 → Option R) : Option R := iter (f10.step m K0) m (.s0 a0)
noncomputable def f10.pc (m : Nat) (other : Con R) : Con R := pcon [.p (.dat .str)] [] (fun x y K => f10 m (x.1) (fun r0 => K (.pv .str r0) [])) other
noncomputable def f10.ct (m : Nat) (f : Nat) : Option (List Mode × Con R) := match f with
  | _ => none
theorem f10.seg (m : Nat) : Seg (f10.ct (R := R) m) f10.C 0 Tryz.f10 (some [some .str]) f10.todo f10.fr f10.hp (fun K => f10.step m (fun r0 => K (.pv .str r0) [])) := fun K call s => by cases s <;> kernel_rfl
theorem f10.ctok (hl : Laid G H0) (m : Nat) : CtOk G H0 (f10.ct (R := R) m) := fun f ms F h => nomatch h
theorem f10.ok (hl : Laid G H0) (m : Nat) {other : Con R} (ho : FOk Tryz.prog G H0 10 other) : FOk Tryz.prog G H0 10 (f10.pc m other) :=
  seg_ok (c := bodyOf Tryz.f10) (by kernel_rfl) (by kernel_rfl) ho (f10.ctok hl m) m (f10.seg m) (fun x y => .s0 (x.1)) (fun x y K => by kernel_rfl) fun _ _ _ => rfl

noncomputable def f13.C : Cuts := ⟨(fun q => match q with
  | 2 => some { live := [0, 3], adopt := [] }
  | _ => none), (fun _ => none)⟩
inductive f13.St where
  | s0 (a0 : List UInt8)
  | s1 (a0 : List UInt8) (a1 : List UInt8)
noncomputable def f13.todo : f13.St → List Item
  | .s0 _ => [.code (bodyOf Tryz.f13)]
  | .s1 _ _ => atBef Tryz.f13 2
noncomputable def f13.fr : f13.St → List SV
  | .s0 a0 => .pv .str a0 :: ud 36 []
  | .s1 a0 a1 => .pv .str a0 :: .dead :: .dead :: .pv .str a1 :: dd 33 []
noncomputable def f13.hp : f13.St → List Blk
  | .s0 a0 => []
  | .s1 a0 a1 => []
noncomputable def f13.step (m : Nat) (K0 : List UInt8 → Option R) (call : f13.St → Option R) : f13.St → Option R
  | .s0 a0 => 
  call (.s1 a0 ([] : List UInt8))
  | .s1 a0 a1 => 
  bif (decide ((65535 : Int) < (((List.length a0) : Nat) : Int))) then
   bif (leB (65535 : Int) (List.length a0)) then
    let x1 : List UInt8 := List.take 65535 a0
    bif (decide ((5 + (List.length x1)) ≤ LIM)) then
     let x2 : List UInt8 := ([0, 255, 255, 0, 0] : List UInt8) ++ x1
     bif (decide (((List.length a1) + (List.length x2)) ≤ LIM)) then
      bif (leB (65535 : Int) (List.length a0)) then
       call (.s1 (List.drop 65535 a0) (a1 ++ x2))
      else
       none
     else
      none
    else
     none
   else
    none
  else
   let x15 : List Int := [(1 : Int), IntKind.wrap .u8 (Int.tmod (((List.length a0) : Nat) : Int) (256 : Int)), IntKind.wrap .u8 (IntKind.wrap .i64 (Int.tdiv (((List.length a0) : Nat) : Int) (256 : Int))), IntKind.wrap .u8 (IntKind.wrap .i64 ((255 : Int) - (Int.tmod (((List.length a0) : Nat) : Int) (256 : Int)))), IntKind.wrap .u8 (IntKind.wrap .i64 ((255 : Int) - (IntKind.wrap .i64 (Int.tdiv (((List.length a0) : Nat) : Int) (256 : Int)))))]
   let x16 : List UInt8 := bytesOf x15
   bif (decide (((List.length a1) + (List.length x16)) ≤ LIM)) then
    let x17 : List UInt8 := a1 ++ x16
    bif (decide (((List.length x17) + (List.length a0)) ≤ LIM)) then
     K0 (x17 ++ a0)
    else
     none
   else
    none
noncomputable def f13 (m : Nat) (a0 : List UInt8) (K0 : List UInt8 → Option R) : Option R := iter (f13.step m K0) m (.s0 a0)
noncomputable def f13.pc (m : Nat) (other : Con R) : Con R := pcon [.p (.dat .str)] [] (fun x y K => f13 m (x.1) (fun r0 => K (.pv .str r0) [])) other
noncomputable def f13.ct (m : Nat) (f : Nat) : Option (List Mode × Con R) := match f with
  | _ => none
theorem f13.seg (m : Nat) : Seg (f13.ct (R := R) m) f13.C 0 Tryz.f13 (some [some .str]) f13.todo f13.fr f13.hp (fun K => f13.step m (fun r0 => K (.pv .str r0) [])) := fun K call s => by cases s <;> kernel_rfl
theorem f13.ctok (hl : Laid G H0) (m : Nat) : CtOk G H0 (f13.ct (R := R) m) := fun f ms F h => nomatch h
theorem f13.ok (hl : Laid G H0) (m : Nat) {other : Con R} (ho : FOk Tryz.prog G H0 13 other) : FOk Tryz.prog G H0 13 (f13.pc m other) :=
  seg_ok (c := bodyOf Tryz.f13) (by kernel_rfl) (by kernel_rfl) ho (f13.ctok hl m) m (f13.seg m) (fun x y => .s0 (x.1)) (fun x y K => by kernel_rfl) fun _ _ _ => rfl

noncomputable def f12.C : Cuts := ⟨(fun q => match q with
  | _ => none), (fun _ => none)⟩
inductive f12.St where
  | s0 (a0 : List UInt8) (a1 : List UInt8)
noncomputable def f12.todo : f12.St → List Item
  | .s0 _ _ => [.code (bodyOf Tryz.f12)]
noncomputable def f12.fr : f12.St → List SV
  | .s0 a0 a1 => .pv .str a0 :: .pv .str a1 :: ud 12 []
noncomputable def f12.hp : f12.St → List Blk
  | .s0 a0 a1 => []
noncomputable def f12.step (m : Nat) (K0 : List UInt8 → Option R) (call : f12.St → Option R) : f12.St → Option R
  | .s0 a0 a1 => 
  let x1 : List Int := [(120 : Int), (1 : Int)]
  let x2 : List UInt8 := bytesOf x1
  bif (decide (((List.length x2) + (List.length a0)) ≤ LIM)) then
   let x3 : List UInt8 := x2 ++ a0
   f28 m a1 (fun (r4 : Int) =>
    f27 m (IntKind.wrap .u64 r4) (4 : Int) (fun (r6 : List UInt8) =>
     bif (decide (((List.length x3) + (List.length r6)) ≤ LIM)) then
      K0 (x3 ++ r6)
     else
      none))
  else
   none
noncomputable def f12 (m : Nat) (a0 : List UInt8) (a1 : List UInt8) (K0 : List UInt8 → Option R) : Option R := iter (f12.step m K0) m (.s0 a0 a1)
noncomputable def f12.pc (m : Nat) (other : Con R) : Con R := pcon [.p (.dat .str), .p (.dat .str)] [] (fun x y K => f12 m (x.1) (x.2.1) (fun r0 => K (.pv .str r0) [])) other
noncomputable def f12.ct (m : Nat) (f : Nat) : Option (List Mode × Con R) := match f with
  | 28 => some ([.bor], (f28.pc m ncon))
  | 27 => some ([.bor, .bor], (f27.pc m ncon))
  | _ => none
theorem f12.seg (m : Nat) : Seg (f12.ct (R := R) m) f12.C 0 Tryz.f12 (some [some .str]) f12.todo f12.fr f12.hp (fun K => f12.step m (fun r0 => K (.pv .str r0) [])) := fun K call s => by cases s <;> kernel_rfl
theorem f12.ctok (hl : Laid G H0) (m : Nat) : CtOk G H0 (f12.ct (R := R) m) := by
  intro f ms F h
  unfold f12.ct at h
  split at h
  · exact ctk h pl28 (f28.ok hl m (ncon_ok _))
  · exact ctk h pl27 (f27.ok hl m (ncon_ok _))
  · cases h
theorem f12.ok (hl : Laid G H0) (m : Nat) {other : Con R} (ho : FOk Tryz.prog G H0 12 other) : FOk Tryz.prog G H0 12 (f12.pc m other) :=
  seg_ok (c := bodyOf Tryz.f12) (by kernel_rfl) (by kernel_rfl) ho (f12.ctok hl m) m (f12.seg m) (fun x y => .s0 (x.1) (x.2.1)) (fun x y K => by kernel_rfl) fun _ _ _ => rfl

noncomputable def f35.C : Cuts := ⟨(fun q => match q with
  | _ => none), (fun _ => none)⟩
inductive f35.St where
  | s0 (a0 : List (List UInt8 × List UInt8)) (a1 : Int)
noncomputable def f35.todo : f35.St → List Item
  | .s0 _ _ => [.code (bodyOf Tryz.f35)]
noncomputable def f35.fr : f35.St → List SV
  | .s0 a0 a1 => .pv (.sl (.prod .str .str)) a0 :: .pv (.int .i64) a1 :: ud 13 []
noncomputable def f35.hp : f35.St → List Blk
  | .s0 a0 a1 => []
noncomputable def f35.step (m : Nat) (K0 : List (List UInt8 × List UInt8) → Option R) (call : f35.St → Option R) : f35.St → Option R
  | .s0 a0 a1 => 
  bif (decide (a1 < (((List.length a0) : Nat) : Int))) then
   bif (leB a1 (List.length a0)) then
    let x1 : List (List UInt8 × List UInt8) := List.take (Int.toNat a1) a0
    bif ((decide (((List.length ([] : List (List UInt8 × List UInt8))) + (List.length x1)) ≤ LIM)) && (decide ((((List.length ([] : List (List UInt8 × List UInt8))) + (List.length x1)) * 32) ≤ LIM))) then
     K0 (([] : List (List UInt8 × List UInt8)) ++ x1)
    else
     none
   else
    none
  else
   bif ((decide (((List.length ([] : List (List UInt8 × List UInt8))) + (List.length a0)) ≤ LIM)) && (decide ((((List.length ([] : List (List UInt8 × List UInt8))) + (List.length a0)) * 32) ≤ LIM))) then
    K0 (([] : List (List UInt8 × List UInt8)) ++ a0)
   else
    none
noncomputable def f35 (m : Nat) (a0 : List (List UInt8 × List UInt8)) (a1 : Int) (K0 : List (List UInt8 × List UInt8) → Option R) : Option R := iter (f35.step m K0) m (.s0 a0 a1)
noncomputable def f35.pc (m : Nat) (other : Con R) : Con R := pcon [.p (.dat (.sl (.prod .str .str))), .p (.dat (.int .i64))] [] (fun x y K => f35 m (x.1) (x.2.1) (fun r0 => K (.sl 0 none) [.row (.prod .str .str) r0 27 true])) other
noncomputable def f35.ct (m : Nat) (f : Nat) : Option (List Mode × Con R) := match f with
  | _ => none
theorem f35.seg (m : Nat) : Seg (f35.ct (R := R) m) f35.C 0 Tryz.f35 none f35.todo f35.fr f35.hp (fun K => f35.step m (fun r0 => K (.sl 0 none) [.row (.prod .str .str) r0 27 true])) := fun K call s => by cases s <;> kernel_rfl
theorem f35.ctok (hl : Laid G H0) (m : Nat) : CtOk G H0 (f35.ct (R := R) m) := fun f ms F h => nomatch h
theorem f35.ok (hl : Laid G H0) (m : Nat) {other : Con R} (ho : FOk Tryz.prog G H0 35 other) : FOk Tryz.prog G H0 35 (f35.pc m other) :=
  seg_ok (c := bodyOf Tryz.f35) (by kernel_rfl) (by kernel_rfl) ho (f35.ctok hl m) m (f35.seg m) (fun x y => .s0 (x.1) (x.2.1)) (fun x y K => by kernel_rfl) fun _ _ _ => rfl

noncomputable def f15.C : Cuts := ⟨(fun q => match q with
  | 3 => some { live := [5, 11, 12], adopt := [] }
  | _ => none), (fun _ => none)⟩
inductive f15.St where
  | s0 (a0 : List (List UInt8 × List UInt8)) (a1 : Int)
  | s1 (a0 : Int) (a1 : Int) (a2 : List (List UInt8 × List UInt8))
noncomputable def f15.todo : f15.St → List Item
  | .s0 _ _ => [.code (bodyOf Tryz.f15)]
  | .s1 _ _ _ => atBef Tryz.f15 3
noncomputable def f15.fr : f15.St → List SV
  | .s0 a0 a1 => .pv (.sl (.prod .str .str)) a0 :: .pv (.int .i64) a1 :: ud 25 []
  | .s1 a0 a1 a2 => dd 5 (.sl 0 none :: dd 5 (.pv (.int .i64) a0 :: .pv (.int .i64) a1 :: dd 14 []))
noncomputable def f15.hp : f15.St → List Blk
  | .s0 a0 a1 => []
  | .s1 a0 a1 a2 => [.row (.prod .str .str) a2 27 true]
noncomputable def f15.step (m : Nat) (K0 : List (List UInt8 × List UInt8) → Option R) (call : f15.St → Option R) : f15.St → Option R
  | .s0 a0 a1 => 
  f35 m a0 a1 (fun (r1 : List (List UInt8 × List UInt8)) =>
   call (.s1 (((List.length r1) : Nat) : Int) (0 : Int) r1))
  | .s1 a0 a1 a2 => 
  bif (decide (a1 < a0)) then
   bif (inB a1 (List.length a2)) then
    f4 m (List.getD a2 (Int.toNat a1) (([] : List UInt8), ([] : List UInt8))).2 (400 : Int) (fun (r3 : List UInt8) =>
     bif (inB a1 (List.length a2)) then
      let x4 : Nat := Int.toNat a1
      call (.s1 a0 (IntKind.wrap .i64 (a1 + (1 : Int))) (List.set a2 x4 ((List.getD a2 x4 (([] : List UInt8), ([] : List UInt8))).1, r3)))
     else
      none)
   else
    none
  else
   K0 a2
noncomputable def f15 (m : Nat) (a0 : List (List UInt8 × List UInt8)) (a1 : Int) (K0 : List (List UInt8 × List UInt8) → Option R) : Option R := iter (f15.step m K0) m (.s0 a0 a1)
noncomputable def f15.pc (m : Nat) (other : Con R) : Con R := pcon [.p (.dat (.sl (.prod .str .str))), .p (.dat (.int .i64))] [] (fun x y K => f15 m (x.1) (x.2.1) (fun r0 => K (.sl 0 none) [.row (.prod .str .str) r0 27 true])) other
noncomputable def f15.ct (m : Nat) (f : Nat) : Option (List Mode × Con R) := match f with
  | 35 => some ([.bor, .bor], (f35.pc m ncon))
  | 4 => some ([.bor, .bor], (f4.pc m ncon))
  | _ => none
theorem f15.seg (m : Nat) : Seg (f15.ct (R := R) m) f15.C 0 Tryz.f15 none f15.todo f15.fr f15.hp (fun K => f15.step m (fun r0 => K (.sl 0 none) [.row (.prod .str .str) r0 27 true])) := fun K call s => by cases s <;> kernel_rfl
theorem pl35 : Plain Tryz.prog 35 := ⟨Tryz.f35, by kernel_rfl, by kernel_rfl, by kernel_rfl⟩
theorem pl4 : Plain Tryz.prog 4 := ⟨Tryz.f4, by kernel_rfl, by kernel_rfl, by kernel_rfl⟩
theorem f15.ctok (hl : Laid G H0) (m : Nat) : CtOk G H0 (f15.ct (R := R) m) := by
  intro f ms F h
  unfold f15.ct at h
  split at h
  · exact ctk h pl35 (f35.ok hl m (ncon_ok _))
  · exact ctk h pl4 (f4.ok hl m (ncon_ok _))
  · cases h
theorem f15.ok (hl : Laid G H0) (m : Nat) {other : Con R} (ho : FOk Tryz.prog G H0 15 other) : FOk Tryz.prog G H0 15 (f15.pc m other) :=
  seg_ok (c := bodyOf Tryz.f15) (by kernel_rfl) (by kernel_rfl) ho (f15.ctok hl m) m (f15.seg m) (fun x y => .s0 (x.1) (x.2.1)) (fun x y K => by kernel_rfl) fun _ _ _ => rfl

noncomputable def f105.C : Cuts := ⟨(fun q => match q with
  | 4 => some { live := [0, 2], adopt := [] }
  | _ => none), (fun _ => none)⟩
inductive f105.St where
  | s0 (a0 : Int)
  | s1 (a0 : Int) (a1 : Int)
noncomputable def f105.todo : f105.St → List Item
  | .s0 _ => [.code (bodyOf Tryz.f105)]
  | .s1 _ _ => atBef Tryz.f105 4
noncomputable def f105.fr : f105.St → List SV
  | .s0 a0 => .pv (.int .u64) a0 :: ud 24 []
  | .s1 a0 a1 => .pv (.int .u64) a0 :: .dead :: .pv (.int .i64) a1 :: dd 22 []
noncomputable def f105.hp : f105.St → List Blk
  | .s0 a0 => []
  | .s1 a0 a1 => []
noncomputable def f105.step (m : Nat) (K0 : Int → Option R) (call : f105.St → Option R) : f105.St → Option R
  | .s0 a0 => 
  bif (decide ((4294967296 : Int) ≤ a0)) then
   call (.s1 (Int.fdiv a0 (4294967296 : Int)) (32 : Int))
  else
   call (.s1 a0 (0 : Int))
  | .s1 a0 a1 => 
  bif (decide ((65536 : Int) ≤ a0)) then
   let x1 : Int := Int.fdiv a0 (65536 : Int)
   let x2 : Int := IntKind.wrap .i64 (a1 + (16 : Int))
   bif (decide ((256 : Int) ≤ x1)) then
    let x5 : Int := IntKind.wrap .u8 (Int.fdiv x1 (256 : Int))
    bif (inB x5 256) then
     K0 (IntKind.wrap .i64 ((IntKind.wrap .i64 (x2 + (8 : Int))) + (IntKind.wrap .i64 ((UInt8.toNat (List.getD ([0, 1, 2, 2, 3, 3, 3, 3, 4, 4, 4, 4, 4, 4, 4, 4, 5, 5, 5, 5, 5, 5, 5, 5, 5, 5, 5, 5, 5, 5, 5, 5, 6, 6, 6, 6, 6, 6, 6, 6, 6, 6, 6, 6, 6, 6, 6, 6, 6, 6, 6, 6, 6, 6, 6, 6, 6, 6, 6, 6, 6, 6, 6, 6, 7, 7, 7, 7, 7, 7, 7, 7, 7, 7, 7, 7, 7, 7, 7, 7, 7, 7, 7, 7, 7, 7, 7, 7, 7, 7, 7, 7, 7, 7, 7, 7, 7, 7, 7, 7, 7, 7, 7, 7, 7, 7, 7, 7, 7, 7, 7, 7, 7, 7, 7, 7, 7, 7, 7, 7, 7, 7, 7, 7, 7, 7, 7, 7, 8, 8, 8, 8, 8, 8, 8, 8, 8, 8, 8, 8, 8, 8, 8, 8, 8, 8, 8, 8, 8, 8, 8, 8, 8, 8, 8, 8, 8, 8, 8, 8, 8, 8, 8, 8, 8, 8, 8, 8, 8, 8, 8, 8, 8, 8, 8, 8, 8, 8, 8, 8, 8, 8, 8, 8, 8, 8, 8, 8, 8, 8, 8, 8, 8, 8, 8, 8, 8, 8, 8, 8, 8, 8, 8, 8, 8, 8, 8, 8, 8, 8, 8, 8, 8, 8, 8, 8, 8, 8, 8, 8, 8, 8, 8, 8, 8, 8, 8, 8, 8, 8, 8, 8, 8, 8, 8, 8, 8, 8, 8, 8, 8, 8, 8, 8, 8, 8, 8, 8, 8, 8, 8, 8, 8, 8, 8, 8] : List UInt8) (Int.toNat x5) 0) : Nat) : Int))))
    else
     none
   else
    let x9 : Int := IntKind.wrap .u8 x1
    bif (inB x9 256) then
     K0 (IntKind.wrap .i64 (x2 + (IntKind.wrap .i64 ((UInt8.toNat (List.getD ([0, 1, 2, 2, 3, 3, 3, 3, 4, 4, 4, 4, 4, 4, 4, 4, 5, 5, 5, 5, 5, 5, 5, 5, 5, 5, 5, 5, 5, 5, 5, 5, 6, 6, 6, 6, 6, 6, 6, 6, 6, 6, 6, 6, 6, 6, 6, 6, 6, 6, 6, 6, 6, 6, 6, 6, 6, 6, 6, 6, 6, 6, 6, 6, 7, 7, 7, 7, 7, 7, 7, 7, 7, 7, 7, 7, 7, 7, 7, 7, 7, 7, 7, 7, 7, 7, 7, 7, 7, 7, 7, 7, 7, 7, 7, 7, 7, 7, 7, 7, 7, 7, 7, 7, 7, 7, 7, 7, 7, 7, 7, 7, 7, 7, 7, 7, 7, 7, 7, 7, 7, 7, 7, 7, 7, 7, 7, 7, 8, 8, 8, 8, 8, 8, 8, 8, 8, 8, 8, 8, 8, 8, 8, 8, 8, 8, 8, 8, 8, 8, 8, 8, 8, 8, 8, 8, 8, 8, 8, 8, 8, 8, 8, 8, 8, 8, 8, 8, 8, 8, 8, 8, 8, 8, 8, 8, 8, 8, 8, 8, 8, 8, 8, 8, 8, 8, 8, 8, 8, 8, 8, 8, 8, 8, 8, 8, 8, 8, 8, 8, 8, 8, 8, 8, 8, 8, 8, 8, 8, 8, 8, 8, 8, 8, 8, 8, 8, 8, 8, 8, 8, 8, 8, 8, 8, 8, 8, 8, 8, 8, 8, 8, 8, 8, 8, 8, 8, 8, 8, 8, 8, 8, 8, 8, 8, 8, 8, 8, 8, 8, 8, 8, 8, 8, 8, 8] : List UInt8) (Int.toNat x9) 0) : Nat) : Int))))
    else
     none
  else
   bif (decide ((256 : Int) ≤ a0)) then
    let x15 : Int := IntKind.wrap .u8 (Int.fdiv a0 (256 : Int))
    bif (inB x15 256) then
     K0 (IntKind.wrap .i64 ((IntKind.wrap .i64 (a1 + (8 : Int))) + (IntKind.wrap .i64 ((UInt8.toNat (List.getD ([0, 1, 2, 2, 3, 3, 3, 3, 4, 4, 4, 4, 4, 4, 4, 4, 5, 5, 5, 5, 5, 5, 5, 5, 5, 5, 5, 5, 5, 5, 5, 5, 6, 6, 6, 6, 6, 6, 6, 6, 6, 6, 6, 6, 6, 6, 6, 6, 6, 6, 6, 6, 6, 6, 6, 6, 6, 6, 6, 6, 6, 6, 6, 6, 7, 7, 7, 7, 7, 7, 7, 7, 7, 7, 7, 7, 7, 7, 7, 7, 7, 7, 7, 7, 7, 7, 7, 7, 7, 7, 7, 7, 7, 7, 7, 7, 7, 7, 7, 7, 7, 7, 7, 7, 7, 7, 7, 7, 7, 7, 7, 7, 7, 7, 7, 7, 7, 7, 7, 7, 7, 7, 7, 7, 7, 7, 7, 7, 8, 8, 8, 8, 8, 8, 8, 8, 8, 8, 8, 8, 8, 8, 8, 8, 8, 8, 8, 8, 8, 8, 8, 8, 8, 8, 8, 8, 8, 8, 8, 8, 8, 8, 8, 8, 8, 8, 8, 8, 8, 8, 8, 8, 8, 8, 8, 8, 8, 8, 8, 8, 8, 8, 8, 8, 8, 8, 8, 8, 8, 8, 8, 8, 8, 8, 8, 8, 8, 8, 8, 8, 8, 8, 8, 8, 8, 8, 8, 8, 8, 8, 8, 8, 8, 8, 8, 8, 8, 8, 8, 8, 8, 8, 8, 8, 8, 8, 8, 8, 8, 8, 8, 8, 8, 8, 8, 8, 8, 8, 8, 8, 8, 8, 8, 8, 8, 8, 8, 8, 8, 8, 8, 8, 8, 8, 8, 8] : List UInt8) (Int.toNat x15) 0) : Nat) : Int))))
    else
     none
   else
    let x19 : Int := IntKind.wrap .u8 a0
    bif (inB x19 256) then
     K0 (IntKind.wrap .i64 (a1 + (IntKind.wrap .i64 ((UInt8.toNat (List.getD ([0, 1, 2, 2, 3, 3, 3, 3, 4, 4, 4, 4, 4, 4, 4, 4, 5, 5, 5, 5, 5, 5, 5, 5, 5, 5, 5, 5, 5, 5, 5, 5, 6, 6, 6, 6, 6, 6, 6, 6, 6, 6, 6, 6, 6, 6, 6, 6, 6, 6, 6, 6, 6, 6, 6, 6, 6, 6, 6, 6, 6, 6, 6, 6, 7, 7, 7, 7, 7, 7, 7, 7, 7, 7, 7, 7, 7, 7, 7, 7, 7, 7, 7, 7, 7, 7, 7, 7, 7, 7, 7, 7, 7, 7, 7, 7, 7, 7, 7, 7, 7, 7, 7, 7, 7, 7, 7, 7, 7, 7, 7, 7, 7, 7, 7, 7, 7, 7, 7, 7, 7, 7, 7, 7, 7, 7, 7, 7, 8, 8, 8, 8, 8, 8, 8, 8, 8, 8, 8, 8, 8, 8, 8, 8, 8, 8, 8, 8, 8, 8, 8, 8, 8, 8, 8, 8, 8, 8, 8, 8, 8, 8, 8, 8, 8, 8, 8, 8, 8, 8, 8, 8, 8, 8, 8, 8, 8, 8, 8, 8, 8, 8, 8, 8, 8, 8, 8, 8, 8, 8, 8, 8, 8, 8, 8, 8, 8, 8, 8, 8, 8, 8, 8, 8, 8, 8, 8, 8, 8, 8, 8, 8, 8, 8, 8, 8, 8, 8, 8, 8, 8, 8, 8, 8, 8, 8, 8, 8, 8, 8, 8, 8, 8, 8, 8, 8, 8, 8, 8, 8, 8, 8, 8, 8, 8, 8, 8, 8, 8, 8, 8, 8, 8, 8, 8, 8] : List UInt8) (Int.toNat x19) 0) : Nat) : Int))))
    else
     none
noncomputable def f105 (m : Nat) (a0 : Int) (K0 : Int → Option R) : Option R := iter (f105.step m K0) m (.s0 a0)
noncomputable def f105.pc (m : Nat) (other : Con R) : Con R := pcon [.p (.dat (.int .u64))] [] (fun x y K => f105 m (x.1) (fun r0 => K (.pv (.int .i64) r0) [])) other
noncomputable def f105.ct (m : Nat) (f : Nat) : Option (List Mode × Con R) := match f with
  | _ => none
theorem f105.seg (m : Nat) : Seg (f105.ct (R := R) m) f105.C 0 Tryz.f105 (some [some (.int .i64)]) f105.todo f105.fr f105.hp (fun K => f105.step m (fun r0 => K (.pv (.int .i64) r0) [])) := fun K call s => by cases s <;> kernel_rfl
theorem f105.ctok (hl : Laid G H0) (m : Nat) : CtOk G H0 (f105.ct (R := R) m) := fun f ms F h => nomatch h
theorem f105.ok (hl : Laid G H0) (m : Nat) {other : Con R} (ho : FOk Tryz.prog G H0 105 other) : FOk Tryz.prog G H0 105 (f105.pc m other) :=
  seg_ok (c := bodyOf Tryz.f105) (by kernel_rfl) (by kernel_rfl) ho (f105.ctok hl m) m (f105.seg m) (fun x y => .s0 (x.1)) (fun x y K => by kernel_rfl) fun _ _ _ => rfl

noncomputable def f62.C : Cuts := ⟨(fun q => match q with
  | _ => none), (fun _ => none)⟩
inductive f62.St where
  | s0 (a0 : Int)
noncomputable def f62.todo : f62.St → List Item
  | .s0 _ => [.code (bodyOf Tryz.f62)]
noncomputable def f62.fr : f62.St → List SV
  | .s0 a0 => .pv (.int .u64) a0 :: ud 7 []
noncomputable def f62.hp : f62.St → List Blk
  | .s0 a0 => []
noncomputable def f62.step (m : Nat) (K0 : Int → Option R) (call : f62.St → Option R) : f62.St → Option R
  | .s0 a0 => 
  f105 m a0 (fun (r1 : Int) =>
   K0 r1)
noncomputable def f62 (m : Nat) (a0 : Int) (K0 : Int → Option R) : Option R := iter (f62.step m K0) m (.s0 a0)
noncomputable def f62.pc (m : Nat) (other : Con R) : Con R := pcon [.p (.dat (.int .u64))] [] (fun x y K => f62 m (x.1) (fun r0 => K (.pv (.int .i64) r0) [])) other
noncomputable def f62.ct (m : Nat) (f : Nat) : Option (List Mode × Con R) := match f with
  | 105 => some ([.bor], (f105.pc m ncon))
  | _ => none
theorem f62.seg (m : Nat) : Seg (f62.ct (R := R) m) f62.C 0 Tryz.f62 (some [some (.int .i64)]) f62.todo f62.fr f62.hp (fun K => f62.step m (fun r0 => K (.pv (.int .i64) r0) [])) := fun K call s => by cases s <;> kernel_rfl
theorem pl105 : Plain Tryz.prog 105 := ⟨Tryz.f105, by kernel_rfl, by kernel_rfl, by kernel_rfl⟩
theorem f62.ctok (hl : Laid G H0) (m : Nat) : CtOk G H0 (f62.ct (R := R) m) := by
  intro f ms F h
  unfold f62.ct at h
  split at h
  · exact ctk h pl105 (f105.ok hl m (ncon_ok _))
  · cases h
theorem f62.ok (hl : Laid G H0) (m : Nat) {other : Con R} (ho : FOk Tryz.prog G H0 62 other) : FOk Tryz.prog G H0 62 (f62.pc m other) :=
  seg_ok (c := bodyOf Tryz.f62) (by kernel_rfl) (by kernel_rfl) ho (f62.ctok hl m) m (f62.seg m) (fun x y => .s0 (x.1)) (fun x y K => by kernel_rfl) fun _ _ _ => rfl

noncomputable def f63.C : Cuts := ⟨(fun q => match q with
  | _ => none), (fun _ => none)⟩
inductive f63.St where
  | s0 (a0 : List UInt8) (a1 : List UInt8)
noncomputable def f63.todo : f63.St → List Item
  | .s0 _ _ => [.code (bodyOf Tryz.f63)]
noncomputable def f63.fr : f63.St → List SV
  | .s0 a0 a1 => .pv .str a0 :: .pv .str a1 :: ud 6 []
noncomputable def f63.hp : f63.St → List Blk
  | .s0 a0 a1 => []
noncomputable def f63.step (m : Nat) (K0 : Int → Option R) (call : f63.St → Option R) : f63.St → Option R
  | .s0 a0 a1 => 
  x106 a0 a1 (fun (r1 : Int) =>
   K0 r1)
noncomputable def f63 (m : Nat) (a0 : List UInt8) (a1 : List UInt8) (K0 : Int → Option R) : Option R := iter (f63.step m K0) m (.s0 a0 a1)
noncomputable def f63.pc (m : Nat) (other : Con R) : Con R := pcon [.p (.dat .str), .p (.dat .str)] [] (fun x y K => f63 m (x.1) (x.2.1) (fun r0 => K (.pv (.int .i64) r0) [])) other
noncomputable def f63.ct (m : Nat) (f : Nat) : Option (List Mode × Con R) := match f with
  | 106 => some ([.bor, .bor], (x106.pc ncon))
  | _ => none
theorem f63.seg (m : Nat) : Seg (f63.ct (R := R) m) f63.C 0 Tryz.f63 (some [some (.int .i64)]) f63.todo f63.fr f63.hp (fun K => f63.step m (fun r0 => K (.pv (.int .i64) r0) [])) := fun K call s => by cases s <;> kernel_rfl
theorem pl106 : Plain Tryz.prog 106 := ⟨Tryz.f106, by kernel_rfl, by kernel_rfl, by kernel_rfl⟩
theorem f63.ctok (hl : Laid G H0) (m : Nat) : CtOk G H0 (f63.ct (R := R) m) := by
  intro f ms F h
  unfold f63.ct at h
  split at h
  · exact ctk h pl106 (x106.ok hl (ncon_ok _))
  · cases h
theorem f63.ok (hl : Laid G H0) (m : Nat) {other : Con R} (ho : FOk Tryz.prog G H0 63 other) : FOk Tryz.prog G H0 63 (f63.pc m other) :=
  seg_ok (c := bodyOf Tryz.f63) (by kernel_rfl) (by kernel_rfl) ho (f63.ctok hl m) m (f63.seg m) (fun x y => .s0 (x.1) (x.2.1)) (fun x y K => by kernel_rfl) fun _ _ _ => rfl

noncomputable def f32.C : Cuts := ⟨(fun q => match q with
  | _ => none), (fun _ => none)⟩
inductive f32.St where
  | s0 (a0 : List UInt8) (a1 : List UInt8) (a2 : List UInt8) (a3 : List UInt8)
noncomputable def f32.todo : f32.St → List Item
  | .s0 _ _ _ _ => [.code (bodyOf Tryz.f32)]
noncomputable def f32.fr : f32.St → List SV
  | .s0 a0 a1 a2 a3 => .agg [.pv .str a0, .pv .str a1] :: .agg [.pv .str a2, .pv .str a3] :: ud 8 []
noncomputable def f32.hp : f32.St → List Blk
  | .s0 a0 a1 a2 a3 => []
noncomputable def f32.step (m : Nat) (K0 : Int → Option R) (call : f32.St → Option R) : f32.St → Option R
  | .s0 a0 a1 a2 a3 => 
  f63 m a0 a2 (fun (r1 : Int) =>
   K0 r1)
noncomputable def f32 (m : Nat) (a0 : List UInt8) (a1 : List UInt8) (a2 : List UInt8) (a3 : List UInt8) (K0 : Int → Option R) : Option R := iter (f32.step m K0) m (.s0 a0 a1 a2 a3)
noncomputable def f32.pc (m : Nat) (other : Con R) : Con R := pcon [.p (.dat (.prod .str .str)), .p (.dat (.prod .str .str))] [] (fun x y K => f32 m (x.1.1) (x.1.2) (x.2.1.1) (x.2.1.2) (fun r0 => K (.pv (.int .i64) r0) [])) other
noncomputable def f32.ct (m : Nat) (f : Nat) : Option (List Mode × Con R) := match f with
  | 63 => some ([.bor, .bor], (f63.pc m ncon))
  | _ => none
theorem f32.seg (m : Nat) : Seg (f32.ct (R := R) m) f32.C 0 Tryz.f32 (some [some (.int .i64)]) f32.todo f32.fr f32.hp (fun K => f32.step m (fun r0 => K (.pv (.int .i64) r0) [])) := fun K call s => by cases s <;> kernel_rfl
theorem pl63 : Plain Tryz.prog 63 := ⟨Tryz.f63, by kernel_rfl, by kernel_rfl, by kernel_rfl⟩
theorem f32.ctok (hl : Laid G H0) (m : Nat) : CtOk G H0 (f32.ct (R := R) m) := by
  intro f ms F h
  unfold f32.ct at h
  split at h
  · exact ctk h pl63 (f63.ok hl m (ncon_ok _))
  · cases h
theorem f32.ok (hl : Laid G H0) (m : Nat) {other : Con R} (ho : FOk Tryz.prog G H0 32 other) : FOk Tryz.prog G H0 32 (f32.pc m other) :=
  seg_ok (c := bodyOf Tryz.f32) (by kernel_rfl) (by kernel_rfl) ho (f32.ctok hl m) m (f32.seg m) (fun x y => .s0 (x.1.1) (x.1.2) (x.2.1.1) (x.2.1.2)) (fun x y K => by kernel_rfl) fun _ _ _ => rfl

noncomputable def f96.C : Cuts := ⟨(fun q => match q with
  | 1 => some { live := [0, 1, 2, 3, 8], adopt := [] }
  | 4 => some { live := [0, 1, 2, 3, 8, 9], adopt := [] }
  | _ => none), (fun _ => none)⟩
inductive f96.St where
  | s0 (a0 : Int) (a1 : Int) (a2 : List (List UInt8 × List UInt8))
  | s1 (a0 : Int) (a1 : Int) (a2 : Int) (a3 : List (List UInt8 × List UInt8))
  | s2 (a0 : Int) (a1 : Int) (a2 : Int) (a3 : Int) (a4 : List (List UInt8 × List UInt8))
noncomputable def f96.todo : f96.St → List Item
  | .s0 _ _ _ => [.code (bodyOf Tryz.f96)]
  | .s1 _ _ _ _ => atBef Tryz.f96 1
  | .s2 _ _ _ _ _ => atBef Tryz.f96 4
noncomputable def f96.fr : f96.St → List SV
  | .s0 a0 a1 a2 => .sl 0 none :: .pv (.int .i64) a0 :: .pv (.int .i64) a1 :: .fn 32 [] :: ud 49 []
  | .s1 a0 a1 a2 a3 => .sl 0 none :: .pv (.int .i64) a0 :: .pv (.int .i64) a1 :: .fn 32 [] :: dd 4 (.pv (.int .i64) a2 :: dd 44 [])
  | .s2 a0 a1 a2 a3 a4 => .sl 0 none :: .pv (.int .i64) a0 :: .pv (.int .i64) a1 :: .fn 32 [] :: dd 4 (.pv (.int .i64) a2 :: .pv (.int .i64) a3 :: dd 43 [])
noncomputable def f96.hp : f96.St → List Blk
  | .s0 a0 a1 a2 => [.row (.prod .str .str) a2 27 true]
  | .s1 a0 a1 a2 a3 => [.row (.prod .str .str) a3 27 true]
  | .s2 a0 a1 a2 a3 a4 => [.row (.prod .str .str) a4 27 true]
noncomputable def f96.step (m : Nat) (K0 : List (List UInt8 × List UInt8) → Option R) (call : f96.St → Option R) : f96.St → Option R
  | .s0 a0 a1 a2 => 
  call (.s1 a0 a1 (IntKind.wrap .i64 (a0 + (1 : Int))) a2)
  | .s1 a0 a1 a2 a3 => 
  bif (decide (a2 < a1)) then
   call (.s2 a0 a1 a2 a2 a3)
  else
   K0 a3
  | .s2 a0 a1 a2 a3 a4 => 
  bif (decide (a0 < a3)) then
   bif (inB a3 (List.length a4)) then
    let x1 : Nat := Int.toNat a3
    let x4 : Int := IntKind.wrap .i64 (a3 - (1 : Int))
    bif (inB x4 (List.length a4)) then
     let x5 : Nat := Int.toNat x4
     f32 m (List.getD a4 x1 (([] : List UInt8), ([] : List UInt8))).1 (List.getD a4 x1 (([] : List UInt8), ([] : List UInt8))).2 (List.getD a4 x5 (([] : List UInt8), ([] : List UInt8))).1 (List.getD a4 x5 (([] : List UInt8), ([] : List UInt8))).2 (fun (r8 : Int) =>
      bif (decide (r8 < (0 : Int))) then
       let x9 : Int := IntKind.wrap .i64 (a3 - (1 : Int))
       let x10 : Int := IntKind.wrap .i64 (a3 - (1 : Int))
       bif (inB x10 (List.length a4)) then
        bif (inB a3 (List.length a4)) then
         bif (inB a3 (List.length a4)) then
          let x18 : List (List UInt8 × List UInt8) := List.set a4 (Int.toNat a3) (List.getD a4 (Int.toNat x10) (([] : List UInt8), ([] : List UInt8)))
          bif (inB x9 (List.length x18)) then
           call (.s2 a0 a1 a2 (IntKind.wrap .i64 (a3 - (1 : Int))) (List.set x18 (Int.toNat x9) (List.getD a4 (Int.toNat a3) (([] : List UInt8), ([] : List UInt8)))))
          else
           none
         else
          none
        else
         none
       else
        none
      else
       call (.s1 a0 a1 (IntKind.wrap .i64 (a2 + (1 : Int))) a4))
    else
     none
   else
    none
  else
   call (.s1 a0 a1 (IntKind.wrap .i64 (a2 + (1 : Int))) a4)
noncomputable def f96 (m : Nat) (a0 : Int) (a1 : Int) (a2 : List (List UInt8 × List UInt8)) (K0 : List (List UInt8 × List UInt8) → Option R) : Option R := iter (f96.step m K0) m (.s0 a0 a1 a2)
noncomputable def f96.pc (m : Nat) (other : Con R) : Con R := pcon [.p (.sl 0), .p (.dat (.int .i64)), .p (.dat (.int .i64)), .fn 32 []] [.row (.prod .str .str) 27 true] (fun x y K => f96 m (x.2.1) (x.2.2.1) (y.1) (fun r0 => K (.tup []) [.row (.prod .str .str) r0 27 true])) other
noncomputable def f96.ct (m : Nat) (f : Nat) : Option (List Mode × Con R) := match f with
  | 32 => some ([.bor, .bor], (f32.pc m ncon))
  | _ => none
theorem f96.seg (m : Nat) : Seg (f96.ct (R := R) m) f96.C 1 Tryz.f96 (some []) f96.todo f96.fr f96.hp (fun K => f96.step m (fun r0 => K (.tup []) [.row (.prod .str .str) r0 27 true])) := fun K call s => by cases s <;> kernel_rfl
theorem pl32 : Plain Tryz.prog 32 := ⟨Tryz.f32, by kernel_rfl, by kernel_rfl, by kernel_rfl⟩
theorem f96.ctok (hl : Laid G H0) (m : Nat) : CtOk G H0 (f96.ct (R := R) m) := by
  intro f ms F h
  unfold f96.ct at h
  split at h
  · exact ctk h pl32 (f32.ok hl m (ncon_ok _))
  · cases h
theorem f96.ok (hl : Laid G H0) (m : Nat) {other : Con R} (ho : FOk Tryz.prog G H0 96 other) : FOk Tryz.prog G H0 96 (f96.pc m other) :=
  seg_ok (c := bodyOf Tryz.f96) (by kernel_rfl) (by kernel_rfl) ho (f96.ctok hl m) m (f96.seg m) (fun x y => .s0 (x.2.1) (x.2.2.1) (y.1)) (fun x y K => by kernel_rfl) fun _ _ _ => rfl

noncomputable def f61.C : Cuts := ⟨(fun q => match q with
  | 2 => some { live := [0, 1, 2, 3, 4, 10, 11], adopt := [] }
  | _ => none), (fun _ => none)⟩
inductive f61.St where
  | s0 (a0 : Int) (a1 : Int) (a2 : Int) (a3 : List (List UInt8 × List UInt8))
  | s1 (a0 : Int) (a1 : Int) (a2 : Int) (a3 : Bool) (a4 : Bool) (a5 : List (List UInt8 × List UInt8))
noncomputable def f61.todo : f61.St → List Item
  | .s0 _ _ _ _ => [.code (bodyOf Tryz.f61)]
  | .s1 _ _ _ _ _ _ => atBef Tryz.f61 2
noncomputable def f61.fr : f61.St → List SV
  | .s0 a0 a1 a2 a3 => .sl 0 none :: .pv (.int .i64) a0 :: .pv (.int .i64) a1 :: .pv (.int .i64) a2 :: .fn 32 [] :: ud 143 []
  | .s1 a0 a1 a2 a3 a4 a5 => .sl 0 none :: .pv (.int .i64) a0 :: .pv (.int .i64) a1 :: .pv (.int .i64) a2 :: .fn 32 [] :: dd 5 (.pv .bool a3 :: .pv .bool a4 :: dd 136 [])
noncomputable def f61.hp : f61.St → List Blk
  | .s0 a0 a1 a2 a3 => [.row (.prod .str .str) a3 27 true]
  | .s1 a0 a1 a2 a3 a4 a5 => [.row (.prod .str .str) a5 27 true]
noncomputable def f61.step (m : Nat) (K0 : List (List UInt8 × List UInt8) → Option R) (call : f61.St → Option R) : f61.St → Option R
  | .s0 a0 a1 a2 a3 => 
  call (.s1 a0 a1 a2 true true a3)
  | .s1 a0 a1 a2 a3 a4 a5 => 
  bif (decide ((IntKind.wrap .i64 (a1 - a0)) ≤ (12 : Int))) then
   f96 m a0 a1 a5 (fun (r2 : List (List UInt8 × List UInt8)) =>
    K0 r2)
  else
   bif (decide (a2 = (0 : Int))) then
    none
   else
    bif (!a3) then
     none
    else
     none
noncomputable def f61 (m : Nat) (a0 : Int) (a1 : Int) (a2 : Int) (a3 : List (List UInt8 × List UInt8)) (K0 : List (List UInt8 × List UInt8) → Option R) : Option R := iter (f61.step m K0) m (.s0 a0 a1 a2 a3)
noncomputable def f61.pc (m : Nat) (other : Con R) : Con R := pcon [.p (.sl 0), .p (.dat (.int .i64)), .p (.dat (.int .i64)), .p (.dat (.int .i64)), .fn 32 []] [.row (.prod .str .str) 27 true] (fun x y K => f61 m (x.2.1) (x.2.2.1) (x.2.2.2.1) (y.1) (fun r0 => K (.tup []) [.row (.prod .str .str) r0 27 true])) other
noncomputable def f61.ct (m : Nat) (f : Nat) : Option (List Mode × Con R) := match f with
  | 96 => some ([.own, .bor, .bor, .own], (f96.pc m ncon))
  | _ => none
theorem f61.seg (m : Nat) : Seg (f61.ct (R := R) m) f61.C 1 Tryz.f61 (some []) f61.todo f61.fr f61.hp (fun K => f61.step m (fun r0 => K (.tup []) [.row (.prod .str .str) r0 27 true])) := fun K call s => by cases s <;> kernel_rfl
theorem pl96 : Plain Tryz.prog 96 := ⟨Tryz.f96, by kernel_rfl, by kernel_rfl, by kernel_rfl⟩
theorem f61.ctok (hl : Laid G H0) (m : Nat) : CtOk G H0 (f61.ct (R := R) m) := by
  intro f ms F h
  unfold f61.ct at h
  split at h
  · exact ctk h pl96 (f96.ok hl m (ncon_ok _))
  · cases h
theorem f61.ok (hl : Laid G H0) (m : Nat) {other : Con R} (ho : FOk Tryz.prog G H0 61 other) : FOk Tryz.prog G H0 61 (f61.pc m other) :=
  seg_ok (c := bodyOf Tryz.f61) (by kernel_rfl) (by kernel_rfl) ho (f61.ctok hl m) m (f61.seg m) (fun x y => .s0 (x.2.1) (x.2.2.1) (x.2.2.2.1) (y.1)) (fun x y K => by kernel_rfl) fun _ _ _ => rfl

noncomputable def f31.C : Cuts := ⟨(fun q => match q with
  | _ => none), (fun _ => none)⟩
inductive f31.St where
  | s0 (a0 : List (List UInt8 × List UInt8))
noncomputable def f31.todo : f31.St → List Item
  | .s0 _ => [.code (bodyOf Tryz.f31)]
noncomputable def f31.fr : f31.St → List SV
  | .s0 a0 => .sl 0 none :: .fn 32 [] :: ud 12 []
noncomputable def f31.hp : f31.St → List Blk
  | .s0 a0 => [.row (.prod .str .str) a0 27 true]
noncomputable def f31.step (m : Nat) (K0 : List (List UInt8 × List UInt8) → Option R) (call : f31.St → Option R) : f31.St → Option R
  | .s0 a0 => 
  f62 m (IntKind.wrap .u64 (((List.length a0) : Nat) : Int)) (fun (r2 : Int) =>
   f61 m (0 : Int) (((List.length a0) : Nat) : Int) r2 a0 (fun (r3 : List (List UInt8 × List UInt8)) =>
    K0 r3))
noncomputable def f31 (m : Nat) (a0 : List (List UInt8 × List UInt8)) (K0 : List (List UInt8 × List UInt8) → Option R) : Option R := iter (f31.step m K0) m (.s0 a0)
noncomputable def f31.pc (m : Nat) (other : Con R) : Con R := pcon [.p (.sl 0), .fn 32 []] [.row (.prod .str .str) 27 true] (fun x y K => f31 m (y.1) (fun r0 => K (.tup []) [.row (.prod .str .str) r0 27 true])) other
noncomputable def f31.ct (m : Nat) (f : Nat) : Option (List Mode × Con R) := match f with
  | 62 => some ([.bor], (f62.pc m ncon))
  | 61 => some ([.own, .bor, .bor, .bor, .own], (f61.pc m ncon))
  | _ => none
theorem f31.seg (m : Nat) : Seg (f31.ct (R := R) m) f31.C 1 Tryz.f31 (some []) f31.todo f31.fr f31.hp (fun K => f31.step m (fun r0 => K (.tup []) [.row (.prod .str .str) r0 27 true])) := fun K call s => by cases s <;> kernel_rfl
theorem pl62 : Plain Tryz.prog 62 := ⟨Tryz.f62, by kernel_rfl, by kernel_rfl, by kernel_rfl⟩
theorem pl61 : Plain Tryz.prog 61 := ⟨Tryz.f61, by kernel_rfl, by kernel_rfl, by kernel_rfl⟩
theorem f31.ctok (hl : Laid G H0) (m : Nat) : CtOk G H0 (f31.ct (R := R) m) := by
  intro f ms F h
  unfold f31.ct at h
  split at h
  · exact ctk h pl62 (f62.ok hl m (ncon_ok _))
  · exact ctk h pl61 (f61.ok hl m (ncon_ok _))
  · cases h
theorem f31.ok (hl : Laid G H0) (m : Nat) {other : Con R} (ho : FOk Tryz.prog G H0 31 other) : FOk Tryz.prog G H0 31 (f31.pc m other) :=
  seg_ok (c := bodyOf Tryz.f31) (by kernel_rfl) (by kernel_rfl) ho (f31.ctok hl m) m (f31.seg m) (fun x y => .s0 (y.1)) (fun x y K => by kernel_rfl) fun _ _ _ => rfl

noncomputable def f67.C : Cuts := ⟨(fun q => match q with
  | 3 => some { live := [0, 2, 4, 8, 9, 10], adopt := [] }
  | _ => none), (fun _ => none)⟩
inductive f67.St where
  | s0 (a0 : List (List UInt8 × List UInt8)) (a1 : List UInt8) (a2 : List UInt8)
  | s1 (a0 : List (List UInt8 × List UInt8)) (a1 : Int) (a2 : Int) (a3 : Int) (a4 : List UInt8) (a5 : List UInt8)
noncomputable def f67.todo : f67.St → List Item
  | .s0 _ _ _ => [.code (bodyOf Tryz.f67)]
  | .s1 _ _ _ _ _ _ => atBef Tryz.f67 3
noncomputable def f67.fr : f67.St → List SV
  | .s0 a0 a1 a2 => .pv (.sl (.prod .str .str)) a0 :: .agg [.pv .str a1, .pv .str a2] :: .fn 32 [] :: ud 46 []
  | .s1 a0 a1 a2 a3 a4 a5 => .pv (.sl (.prod .str .str)) a0 :: .dead :: .fn 32 [] :: .dead :: .ptr 0 0 :: dd 3 (.pv (.int .i64) a1 :: .pv (.int .i64) a2 :: .pv (.int .i64) a3 :: dd 38 [])
noncomputable def f67.hp : f67.St → List Blk
  | .s0 a0 a1 a2 => []
  | .s1 a0 a1 a2 a3 a4 a5 => [.box [.pv .str a4, .pv .str a5] 27]
noncomputable def f67.step (m : Nat) (K0 : Int → Bool → Option R) (call : f67.St → Option R) : f67.St → Option R
  | .s0 a0 a1 a2 => 
  call (.s1 a0 (((List.length a0) : Nat) : Int) (0 : Int) (((List.length a0) : Nat) : Int) a1 a2)
  | .s1 a0 a1 a2 a3 a4 a5 => 
  bif (decide (a2 < a3)) then
   let x4 : Int := IntKind.wrap .i64 (Int.fdiv (IntKind.wrap .u64 (IntKind.wrap .i64 (a2 + a3))) (2 : Int))
   bif (inB x4 (List.length a0)) then
    f32 m (List.getD a0 (Int.toNat x4) (([] : List UInt8), ([] : List UInt8))).1 (List.getD a0 (Int.toNat x4) (([] : List UInt8), ([] : List UInt8))).2 a4 a5 (fun (r6 : Int) =>
     bif (decide (r6 < (0 : Int))) then
      call (.s1 a0 a1 (IntKind.wrap .i64 (x4 + (1 : Int))) a3 a4 a5)
     else
      call (.s1 a0 a1 a2 x4 a4 a5))
   else
    none
  else
   bif (decide (a2 < a1)) then
    bif (inB a2 (List.length a0)) then
     f32 m (List.getD a0 (Int.toNat a2) (([] : List UInt8), ([] : List UInt8))).1 (List.getD a0 (Int.toNat a2) (([] : List UInt8), ([] : List UInt8))).2 a4 a5 (fun (r9 : Int) =>
      K0 a2 (decide (r9 = (0 : Int))))
    else
     none
   else
    K0 a2 false
noncomputable def f67 (m : Nat) (a0 : List (List UInt8 × List UInt8)) (a1 : List UInt8) (a2 : List UInt8) (K0 : Int → Bool → Option R) : Option R := iter (f67.step m K0) m (.s0 a0 a1 a2)
noncomputable def f67.pc (m : Nat) (other : Con R) : Con R := pcon [.p (.dat (.sl (.prod .str .str))), .p (.dat (.prod .str .str)), .fn 32 []] [] (fun x y K => f67 m (x.1) (x.2.1.1) (x.2.1.2) (fun r0 r1 => K (.tup [.pv (.int .i64) r0, .pv .bool r1]) [])) other
noncomputable def f67.ct (m : Nat) (f : Nat) : Option (List Mode × Con R) := match f with
  | 32 => some ([.bor, .bor], (f32.pc m ncon))
  | _ => none
theorem f67.seg (m : Nat) : Seg (f67.ct (R := R) m) f67.C 0 Tryz.f67 (some [some (.int .i64), some .bool]) f67.todo f67.fr f67.hp (fun K => f67.step m (fun r0 r1 => K (.tup [.pv (.int .i64) r0, .pv .bool r1]) [])) := fun K call s => by cases s <;> kernel_rfl
theorem f67.ctok (hl : Laid G H0) (m : Nat) : CtOk G H0 (f67.ct (R := R) m) := by
  intro f ms F h
  unfold f67.ct at h
  split at h
  · exact ctk h pl32 (f32.ok hl m (ncon_ok _))
  · cases h
theorem f67.ok (hl : Laid G H0) (m : Nat) {other : Con R} (ho : FOk Tryz.prog G H0 67 other) : FOk Tryz.prog G H0 67 (f67.pc m other) :=
  seg_ok (c := bodyOf Tryz.f67) (by kernel_rfl) (by kernel_rfl) ho (f67.ctok hl m) m (f67.seg m) (fun x y => .s0 (x.1) (x.2.1.1) (x.2.1.2)) (fun x y K => by kernel_rfl) fun _ _ _ => rfl

noncomputable def f109.C : Cuts := ⟨(fun q => match q with
  | _ => none), (fun _ => none)⟩
inductive f109.St where
  | s0 (a0 : List UInt8) (a1 : List UInt8)
noncomputable def f109.todo : f109.St → List Item
  | .s0 _ _ => [.code (bodyOf Tryz.f109)]
noncomputable def f109.fr : f109.St → List SV
  | .s0 a0 a1 => .pv .str a0 :: .pv .str a1 :: ud 16 []
noncomputable def f109.hp : f109.St → List Blk
  | .s0 a0 a1 => []
noncomputable def f109.step (m : Nat) (K0 : Bool → Option R) (call : f109.St → Option R) : f109.St → Option R
  | .s0 a0 a1 => 
  bif (decide ((((List.length a1) : Nat) : Int) ≤ (((List.length a0) : Nat) : Int))) then
   bif (leB (((List.length a1) : Nat) : Int) (List.length a0)) then
    K0 (decide ((List.take (List.length a1) a0) = a1))
   else
    none
  else
   K0 false
noncomputable def f109 (m : Nat) (a0 : List UInt8) (a1 : List UInt8) (K0 : Bool → Option R) : Option R := iter (f109.step m K0) m (.s0 a0 a1)
noncomputable def f109.pc (m : Nat) (other : Con R) : Con R := pcon [.p (.dat .str), .p (.dat .str)] [] (fun x y K => f109 m (x.1) (x.2.1) (fun r0 => K (.pv .bool r0) [])) other
noncomputable def f109.ct (m : Nat) (f : Nat) : Option (List Mode × Con R) := match f with
  | _ => none
theorem f109.seg (m : Nat) : Seg (f109.ct (R := R) m) f109.C 0 Tryz.f109 (some [some .bool]) f109.todo f109.fr f109.hp (fun K => f109.step m (fun r0 => K (.pv .bool r0) [])) := fun K call s => by cases s <;> kernel_rfl
theorem f109.ctok (hl : Laid G H0) (m : Nat) : CtOk G H0 (f109.ct (R := R) m) := fun f ms F h => nomatch h
theorem f109.ok (hl : Laid G H0) (m : Nat) {other : Con R} (ho : FOk Tryz.prog G H0 109 other) : FOk Tryz.prog G H0 109 (f109.pc m other) :=
  seg_ok (c := bodyOf Tryz.f109) (by kernel_rfl) (by kernel_rfl) ho (f109.ctok hl m) m (f109.seg m) (fun x y => .s0 (x.1) (x.2.1)) (fun x y K => by kernel_rfl) fun _ _ _ => rfl

noncomputable def f68.C : Cuts := ⟨(fun q => match q with
  | _ => none), (fun _ => none)⟩
inductive f68.St where
  | s0 (a0 : List UInt8) (a1 : List UInt8)
noncomputable def f68.todo : f68.St → List Item
  | .s0 _ _ => [.code (bodyOf Tryz.f68)]
noncomputable def f68.fr : f68.St → List SV
  | .s0 a0 a1 => .pv .str a0 :: .pv .str a1 :: ud 6 []
noncomputable def f68.hp : f68.St → List Blk
  | .s0 a0 a1 => []
noncomputable def f68.step (m : Nat) (K0 : Bool → Option R) (call : f68.St → Option R) : f68.St → Option R
  | .s0 a0 a1 => 
  f109 m a0 a1 (fun (r1 : Bool) =>
   K0 r1)
noncomputable def f68 (m : Nat) (a0 : List UInt8) (a1 : List UInt8) (K0 : Bool → Option R) : Option R := iter (f68.step m K0) m (.s0 a0 a1)
noncomputable def f68.pc (m : Nat) (other : Con R) : Con R := pcon [.p (.dat .str), .p (.dat .str)] [] (fun x y K => f68 m (x.1) (x.2.1) (fun r0 => K (.pv .bool r0) [])) other
noncomputable def f68.ct (m : Nat) (f : Nat) : Option (List Mode × Con R) := match f with
  | 109 => some ([.bor, .bor], (f109.pc m ncon))
  | _ => none
theorem f68.seg (m : Nat) : Seg (f68.ct (R := R) m) f68.C 0 Tryz.f68 (some [some .bool]) f68.todo f68.fr f68.hp (fun K => f68.step m (fun r0 => K (.pv .bool r0) [])) := fun K call s => by cases s <;> kernel_rfl
theorem pl109 : Plain Tryz.prog 109 := ⟨Tryz.f109, by kernel_rfl, by kernel_rfl, by kernel_rfl⟩
theorem f68.ctok (hl : Laid G H0) (m : Nat) : CtOk G H0 (f68.ct (R := R) m) := by
  intro f ms F h
  unfold f68.ct at h
  split at h
  · exact ctk h pl109 (f109.ok hl m (ncon_ok _))
  · cases h
theorem f68.ok (hl : Laid G H0) (m : Nat) {other : Con R} (ho : FOk Tryz.prog G H0 68 other) : FOk Tryz.prog G H0 68 (f68.pc m other) :=
  seg_ok (c := bodyOf Tryz.f68) (by kernel_rfl) (by kernel_rfl) ho (f68.ctok hl m) m (f68.seg m) (fun x y => .s0 (x.1) (x.2.1)) (fun x y K => by kernel_rfl) fun _ _ _ => rfl

noncomputable def f34.C : Cuts := ⟨(fun q => match q with
  | 3 => some { live := [0, 1, 5, 6], adopt := [(5, [], .str, 9)] }
  | _ => none), (fun _ => none)⟩
inductive f34.St where
  | s0 (a0 : List UInt8) (a1 : Int) (a2 : List (List UInt8 × List UInt8))
  | s1 (a0 : List UInt8) (a1 : Int) (a2 : Int) (a3 : List (List UInt8 × List UInt8)) (a4 : List (List UInt8))
noncomputable def f34.todo : f34.St → List Item
  | .s0 _ _ _ => [.code (bodyOf Tryz.f34)]
  | .s1 _ _ _ _ _ => atBef Tryz.f34 3
noncomputable def f34.fr : f34.St → List SV
  | .s0 a0 a1 a2 => .ptr 0 0 :: .pv .str a0 :: ud 49 []
  | .s1 a0 a1 a2 a3 a4 => .ptr 0 0 :: .pv .str a0 :: dd 3 (.sl 2 none :: .pv (.int .i64) a1 :: dd 44 [])
noncomputable def f34.hp : f34.St → List Blk
  | .s0 a0 a1 a2 => [.box [.sl 1 none, .pv (.int .i64) a1] 58, .row (.prod .str .str) a2 27 true]
  | .s1 a0 a1 a2 a3 a4 => [.box [.sl 1 none, .pv (.int .i64) a2] 58, .row (.prod .str .str) a3 27 true, .row .str a4 9 true]
noncomputable def f34.step (m : Nat) (K0 : List (List UInt8) → Int → List (List UInt8 × List UInt8) → Option R) (call : f34.St → Option R) : f34.St → Option R
  | .s0 a0 a1 a2 => 
  f67 m a2 a0 ([] : List UInt8) (fun (r1 : Int) (r2 : Bool) =>
   call (.s1 a0 r1 a1 a2 ([] : List (List UInt8))))
  | .s1 a0 a1 a2 a3 a4 => 
  bif (decide (a1 < (((List.length a3) : Nat) : Int))) then
   bif (inB a1 (List.length a3)) then
    f68 m (List.getD a3 (Int.toNat a1) (([] : List UInt8), ([] : List UInt8))).1 a0 (fun (r3 : Bool) =>
     bif r3 then
      bif (inB a1 (List.length a3)) then
       let x6 : List (List UInt8) := [(List.getD a3 (Int.toNat a1) (([] : List UInt8), ([] : List UInt8))).1]
       bif ((decide (((List.length a4) + (List.length x6)) ≤ LIM)) && (decide ((((List.length a4) + (List.length x6)) * 16) ≤ LIM))) then
        call (.s1 a0 (IntKind.wrap .i64 (a1 + (1 : Int))) a2 a3 (a4 ++ x6))
       else
        none
      else
       none
     else
      K0 a4 a2 a3)
   else
    none
  else
   K0 a4 a2 a3
noncomputable def f34 (m : Nat) (a0 : List UInt8) (a1 : Int) (a2 : List (List UInt8 × List UInt8)) (K0 : List (List UInt8) → Int → List (List UInt8 × List UInt8) → Option R) : Option R := iter (f34.step m K0) m (.s0 a0 a1 a2)
noncomputable def f34.pc (m : Nat) (other : Con R) : Con R := pcon [.p (.ptr 0 0), .p (.dat .str)] [.box [.sl 1, .dat (.int .i64)] 58, .row (.prod .str .str) 27 true] (fun x y K => f34 m (x.2.1) (y.1.2.1) (y.2.1) (fun r0 r1 r2 => K (.pv (.sl .str) r0) [.box [.sl 1 none, .pv (.int .i64) r1] 58, .row (.prod .str .str) r2 27 true])) other
noncomputable def f34.ct (m : Nat) (f : Nat) : Option (List Mode × Con R) := match f with
  | 67 => some ([.bor, .bor, .own], (f67.pc m ncon))
  | 68 => some ([.bor, .bor], (f68.pc m ncon))
  | _ => none
theorem f34.seg (m : Nat) : Seg (f34.ct (R := R) m) f34.C 2 Tryz.f34 (some [some (.sl .str)]) f34.todo f34.fr f34.hp (fun K => f34.step m (fun r0 r1 r2 => K (.pv (.sl .str) r0) [.box [.sl 1 none, .pv (.int .i64) r1] 58, .row (.prod .str .str) r2 27 true])) := fun K call s => by cases s <;> kernel_rfl
theorem pl67 : Plain Tryz.prog 67 := ⟨Tryz.f67, by kernel_rfl, by kernel_rfl, by kernel_rfl⟩
theorem pl68 : Plain Tryz.prog 68 := ⟨Tryz.f68, by kernel_rfl, by kernel_rfl, by kernel_rfl⟩
theorem f34.ctok (hl : Laid G H0) (m : Nat) : CtOk G H0 (f34.ct (R := R) m) := by
  intro f ms F h
  unfold f34.ct at h
  split at h
  · exact ctk h pl67 (f67.ok hl m (ncon_ok _))
  · exact ctk h pl68 (f68.ok hl m (ncon_ok _))
  · cases h
theorem f34.ok (hl : Laid G H0) (m : Nat) {other : Con R} (ho : FOk Tryz.prog G H0 34 other) : FOk Tryz.prog G H0 34 (f34.pc m other) :=
  seg_ok (c := bodyOf Tryz.f34) (by kernel_rfl) (by kernel_rfl) ho (f34.ctok hl m) m (f34.seg m) (fun x y => .s0 (x.2.1) (y.1.2.1) (y.2.1)) (fun x y K => by kernel_rfl) fun _ _ _ => rfl

noncomputable def f14.C : Cuts := ⟨(fun q => match q with
  | 3 => some { live := [0, 4, 15, 16, 17], adopt := [] }
  | 11 => some { live := [4, 50, 51, 52], adopt := [] }
  | 17 => some { live := [4, 83, 84, 85], adopt := [] }
  | _ => none), (fun _ => none)⟩
inductive f14.St where
  | s0 (a0 : List (List UInt8 × List UInt8))
  | s1 (a0 : List (List UInt8 × List UInt8)) (a1 : List (List UInt8 × List UInt8)) (a2 : Int) (a3 : Int) (a4 : Int) (a5 : List (List UInt8 × List UInt8))
  | s2 (a0 : Int) (a1 : Int) (a2 : Int) (a3 : List (List UInt8 × List UInt8))
  | s3 (a0 : Int) (a1 : Int) (a2 : Int) (a3 : List (List UInt8 × List UInt8))
noncomputable def f14.todo : f14.St → List Item
  | .s0 _ => [.code (bodyOf Tryz.f14)]
  | .s1 _ _ _ _ _ _ => atBef Tryz.f14 3
  | .s2 _ _ _ _ => atBef Tryz.f14 11
  | .s3 _ _ _ _ => atBef Tryz.f14 17
noncomputable def f14.fr : f14.St → List SV
  | .s0 a0 => .pv (.sl (.prod .str .str)) a0 :: ud 97 []
  | .s1 a0 a1 a2 a3 a4 a5 => .pv (.sl (.prod .str .str)) a0 :: dd 3 (.ptr 0 0 :: dd 10 (.pv (.sl (.prod .str .str)) a1 :: .pv (.int .i64) a2 :: .pv (.int .i64) a3 :: dd 80 []))
  | .s2 a0 a1 a2 a3 => dd 4 (.ptr 0 0 :: dd 45 (.sl 1 none :: .pv (.int .i64) a0 :: .pv (.int .i64) a1 :: dd 45 []))
  | .s3 a0 a1 a2 a3 => dd 4 (.ptr 0 0 :: dd 78 (.sl 1 none :: .pv (.int .i64) a0 :: .pv (.int .i64) a1 :: dd 12 []))
noncomputable def f14.hp : f14.St → List Blk
  | .s0 a0 => []
  | .s1 a0 a1 a2 a3 a4 a5 => [.box [.sl 1 none, .pv (.int .i64) a4] 58, .row (.prod .str .str) a5 27 true]
  | .s2 a0 a1 a2 a3 => [.box [.sl 1 none, .pv (.int .i64) a2] 58, .row (.prod .str .str) a3 27 true]
  | .s3 a0 a1 a2 a3 => [.box [.sl 1 none, .pv (.int .i64) a2] 58, .row (.prod .str .str) a3 27 true]
noncomputable def f14.step (m : Nat) (K0 : Option ((List (List UInt8 × List UInt8) × Int)) → Int → Option R) (call : f14.St → Option R) : f14.St → Option R
  | .s0 a0 => 
  x30 a0 (fun (r1 : List (List UInt8 × List UInt8)) =>
   call (.s1 a0 a0 (((List.length a0) : Nat) : Int) (0 : Int) (0 : Int) r1))
  | .s1 a0 a1 a2 a3 a4 a5 => 
  bif (decide (a3 < a2)) then
   bif (inB a3 (List.length a1)) then
    call (.s1 a0 a1 a2 (IntKind.wrap .i64 (a3 + (1 : Int))) (IntKind.wrap .i64 (a4 + (((List.length (List.getD a1 (Int.toNat a3) (([] : List UInt8), ([] : List UInt8))).2) : Nat) : Int))) a5)
   else
    none
  else
   bif (!(decide ((2000 : Int) < (((List.length a0) : Nat) : Int)))) then
    bif (decide ((4194304 : Int) < a4)) then
     K0 (none : Option ((List (List UInt8 × List UInt8) × Int))) (2 : Int)
    else
     f31 m a5 (fun (r4 : List (List UInt8 × List UInt8)) =>
      call (.s2 (((List.length r4) : Nat) : Int) (0 : Int) a4 r4))
   else
    K0 (none : Option ((List (List UInt8 × List UInt8) × Int))) (2 : Int)
  | .s2 a0 a1 a2 a3 => 
  bif (decide (a1 < a0)) then
   bif (inB a1 (List.length a3)) then
    let x2 : List UInt8 := (List.getD a3 (Int.toNat a1) (([] : List UInt8), ([] : List UInt8))).1
    x33 x2 (fun (r4 : Bool) =>
     bif (!(!r4)) then
      bif (decide ((0 : Int) < a1)) then
       let x6 : Int := IntKind.wrap .i64 (a1 - (1 : Int))
       bif (inB x6 (List.length a3)) then
        bif (decide ((List.getD a3 (Int.toNat x6) (([] : List UInt8), ([] : List UInt8))).1 = x2)) then
         K0 (none : Option ((List (List UInt8 × List UInt8) × Int))) (4 : Int)
        else
         call (.s2 a0 (IntKind.wrap .i64 (a1 + (1 : Int))) a2 a3)
       else
        none
      else
       call (.s2 a0 (IntKind.wrap .i64 (a1 + (1 : Int))) a2 a3)
     else
      K0 (none : Option ((List (List UInt8 × List UInt8) × Int))) (4 : Int))
   else
    none
  else
   call (.s3 (((List.length a3) : Nat) : Int) (0 : Int) a2 a3)
  | .s3 a0 a1 a2 a3 => 
  bif (decide (a1 < a0)) then
   bif (inB a1 (List.length a3)) then
    let x2 : List UInt8 := (List.getD a3 (Int.toNat a1) (([] : List UInt8), ([] : List UInt8))).1
    bif (decide (((List.length x2) + 1) ≤ LIM)) then
     f34 m (x2 ++ ([47] : List UInt8)) a2 a3 (fun (r5 : List (List UInt8)) (r6 : Int) (r7 : List (List UInt8 × List UInt8)) =>
      bif (decide ((0 : Int) < (((List.length r5) : Nat) : Int))) then
       K0 (none : Option ((List (List UInt8 × List UInt8) × Int))) (4 : Int)
      else
       call (.s3 a0 (IntKind.wrap .i64 (a1 + (1 : Int))) r6 r7))
    else
     none
   else
    none
  else
   K0 (some (a3, a2)) (0 : Int)
noncomputable def f14 (m : Nat) (a0 : List (List UInt8 × List UInt8)) (K0 : Option ((List (List UInt8 × List UInt8) × Int)) → Int → Option R) : Option R := iter (f14.step m K0) m (.s0 a0)
noncomputable def f14.pc (m : Nat) (other : Con R) : Con R := pcon [.p (.dat (.sl (.prod .str .str)))] [] (fun x y K => f14 m (x.1) (fun r0 r1 => K (.tup [.pv (.ptr (.prod (.sl (.prod .str .str)) (.int .i64))) r0, .pv (.int .i64) r1]) [])) other
noncomputable def f14.ct (m : Nat) (f : Nat) : Option (List Mode × Con R) := match f with
  | 30 => some ([.bor], (x30.pc ncon))
  | 31 => some ([.own, .own], (f31.pc m ncon))
  | 33 => some ([.bor], (x33.pc ncon))
  | 34 => some ([.own, .bor], (f34.pc m ncon))
  | _ => none
theorem f14.seg (m : Nat) : Seg (f14.ct (R := R) m) f14.C 0 Tryz.f14 (some [some (.ptr (.prod (.sl (.prod .str .str)) (.int .i64))), some (.int .i64)]) f14.todo f14.fr f14.hp (fun K => f14.step m (fun r0 r1 => K (.tup [.pv (.ptr (.prod (.sl (.prod .str .str)) (.int .i64))) r0, .pv (.int .i64) r1]) [])) := fun K call s => by cases s <;> kernel_rfl
theorem pl30 : Plain Tryz.prog 30 := ⟨Tryz.f30, by kernel_rfl, by kernel_rfl, by kernel_rfl⟩
theorem pl31 : Plain Tryz.prog 31 := ⟨Tryz.f31, by kernel_rfl, by kernel_rfl, by kernel_rfl⟩
theorem pl33 : Plain Tryz.prog 33 := ⟨Tryz.f33, by kernel_rfl, by kernel_rfl, by kernel_rfl⟩
theorem pl34 : Plain Tryz.prog 34 := ⟨Tryz.f34, by kernel_rfl, by kernel_rfl, by kernel_rfl⟩
theorem f14.ctok (hl : Laid G H0) (m : Nat) : CtOk G H0 (f14.ct (R := R) m) := by
  intro f ms F h
  unfold f14.ct at h
  split at h
  · exact ctk h pl30 (x30.ok hl (ncon_ok _))
  · exact ctk h pl31 (f31.ok hl m (ncon_ok _))
  · exact ctk h pl33 (x33.ok hl (ncon_ok _))
  · exact ctk h pl34 (f34.ok hl m (ncon_ok _))
  · cases h
theorem f14.ok (hl : Laid G H0) (m : Nat) {other : Con R} (ho : FOk Tryz.prog G H0 14 other) : FOk Tryz.prog G H0 14 (f14.pc m other) :=
  seg_ok (c := bodyOf Tryz.f14) (by kernel_rfl) (by kernel_rfl) ho (f14.ctok hl m) m (f14.seg m) (fun x y => .s0 (x.1)) (fun x y K => by kernel_rfl) fun _ _ _ => rfl

noncomputable def f36.C : Cuts := ⟨(fun q => match q with
  | _ => none), (fun _ => none)⟩
inductive f36.St where
  | s0 (a0 : Option ((List (List UInt8 × List UInt8) × Int))) (a1 : List UInt8)
noncomputable def f36.todo : f36.St → List Item
  | .s0 _ _ => [.code (bodyOf Tryz.f36)]
noncomputable def f36.fr : f36.St → List SV
  | .s0 a0 a1 => .pv (.ptr (.prod (.sl (.prod .str .str)) (.int .i64))) a0 :: .pv .str a1 :: ud 26 []
noncomputable def f36.hp : f36.St → List Blk
  | .s0 a0 a1 => []
noncomputable def f36.step (m : Nat) (K0 : List UInt8 → Int → Option R) (call : f36.St → Option R) : f36.St → Option R
  | .s0 a0 a1 => 
  deref a0 fun (p1 : (List (List UInt8 × List UInt8) × Int)) =>
  f67 m p1.1 a1 ([] : List UInt8) (fun (r2 : Int) (r3 : Bool) =>
   bif (!r3) then
    K0 ([] : List UInt8) (7 : Int)
   else
    deref a0 fun (p5 : (List (List UInt8 × List UInt8) × Int)) =>
    bif (inB r2 (List.length p5.1)) then
     K0 (List.getD p5.1 (Int.toNat r2) (([] : List UInt8), ([] : List UInt8))).2 (0 : Int)
    else
     none)
noncomputable def f36 (m : Nat) (a0 : Option ((List (List UInt8 × List UInt8) × Int))) (a1 : List UInt8) (K0 : List UInt8 → Int → Option R) : Option R := iter (f36.step m K0) m (.s0 a0 a1)
noncomputable def f36.pc (m : Nat) (other : Con R) : Con R := pcon [.p (.dat (.ptr (.prod (.sl (.prod .str .str)) (.int .i64)))), .p (.dat .str)] [] (fun x y K => f36 m (x.1) (x.2.1) (fun r0 r1 => K (.tup [.pv .str r0, .pv (.int .i64) r1]) [])) other
noncomputable def f36.ct (m : Nat) (f : Nat) : Option (List Mode × Con R) := match f with
  | 67 => some ([.bor, .bor, .own], (f67.pc m ncon))
  | _ => none
theorem f36.seg (m : Nat) : Seg (f36.ct (R := R) m) f36.C 0 Tryz.f36 (some [some .str, some (.int .i64)]) f36.todo f36.fr f36.hp (fun K => f36.step m (fun r0 r1 => K (.tup [.pv .str r0, .pv (.int .i64) r1]) [])) := fun K call s => by cases s <;> kernel_rfl
theorem f36.ctok (hl : Laid G H0) (m : Nat) : CtOk G H0 (f36.ct (R := R) m) := by
  intro f ms F h
  unfold f36.ct at h
  split at h
  · exact ctk h pl67 (f67.ok hl m (ncon_ok _))
  · cases h
theorem f36.ok (hl : Laid G H0) (m : Nat) {other : Con R} (ho : FOk Tryz.prog G H0 36 other) : FOk Tryz.prog G H0 36 (f36.pc m other) :=
  seg_ok (c := bodyOf Tryz.f36) (by kernel_rfl) (by kernel_rfl) ho (f36.ctok hl m) m (f36.seg m) (fun x y => .s0 (x.1) (x.2.1)) (fun x y K => by kernel_rfl) fun _ _ _ => rfl

noncomputable def f69.C : Cuts := ⟨(fun q => match q with
  | _ => none), (fun _ => none)⟩
inductive f69.St where
  | s0 (a0 : Int) (a1 : Int)
noncomputable def f69.todo : f69.St → List Item
  | .s0 _ _ => [.code (bodyOf Tryz.f69)]
noncomputable def f69.fr : f69.St → List SV
  | .s0 a0 a1 => .pv (.int .u8) a0 :: .pv (.int .u8) a1 :: ud 26 []
noncomputable def f69.hp : f69.St → List Blk
  | .s0 a0 a1 => []
noncomputable def f69.step (m : Nat) (K0 : Bool → Option R) (call : f69.St → Option R) : f69.St → Option R
  | .s0 a0 a1 => 
  bif (decide ((ibits .and .u8 a0 (15 : Int)) = (8 : Int))) then
   bif (decide ((Int.fdiv a0 (16 : Int)) ≤ (7 : Int))) then
    bif (decide ((Int.tmod (ibits .or .i64 (IntKind.wrap .i64 ((IntKind.wrap .i64 a0) * (256 : Int))) (IntKind.wrap .i64 a1)) (31 : Int)) = (0 : Int))) then
     K0 (decide ((ibits .and .u8 a1 (32 : Int)) = (0 : Int)))
    else
     K0 false
   else
    K0 false
  else
   K0 false
noncomputable def f69 (m : Nat) (a0 : Int) (a1 : Int) (K0 : Bool → Option R) : Option R := iter (f69.step m K0) m (.s0 a0 a1)
noncomputable def f69.pc (m : Nat) (other : Con R) : Con R := pcon [.p (.dat (.int .u8)), .p (.dat (.int .u8))] [] (fun x y K => f69 m (x.1) (x.2.1) (fun r0 => K (.pv .bool r0) [])) other
noncomputable def f69.ct (m : Nat) (f : Nat) : Option (List Mode × Con R) := match f with
  | _ => none
theorem f69.seg (m : Nat) : Seg (f69.ct (R := R) m) f69.C 0 Tryz.f69 (some [some .bool]) f69.todo f69.fr f69.hp (fun K => f69.step m (fun r0 => K (.pv .bool r0) [])) := fun K call s => by cases s <;> kernel_rfl
theorem f69.ctok (hl : Laid G H0) (m : Nat) : CtOk G H0 (f69.ct (R := R) m) := fun f ms F h => nomatch h
theorem f69.ok (hl : Laid G H0) (m : Nat) {other : Con R} (ho : FOk Tryz.prog G H0 69 other) : FOk Tryz.prog G H0 69 (f69.pc m other) :=
  seg_ok (c := bodyOf Tryz.f69) (by kernel_rfl) (by kernel_rfl) ho (f69.ctok hl m) m (f69.seg m) (fun x y => .s0 (x.1) (x.2.1)) (fun x y K => by kernel_rfl) fun _ _ _ => rfl

noncomputable def f110.C : Cuts := ⟨(fun q => match q with
  | _ => none), (fun _ => none)⟩
inductive f110.St where
  | s0 (a0 : List UInt8) (a1 : Int)
noncomputable def f110.todo : f110.St → List Item
  | .s0 _ _ => [.code (bodyOf Tryz.f110)]
noncomputable def f110.fr : f110.St → List SV
  | .s0 a0 a1 => .pv .str a0 :: .pv (.int .i64) a1 :: ud 13 []
noncomputable def f110.hp : f110.St → List Blk
  | .s0 a0 a1 => []
noncomputable def f110.step (m : Nat) (K0 : List UInt8 → Int → Int → Int → Int → Option R) (call : f110.St → Option R) : f110.St → Option R
  | .s0 a0 a1 => 
  let x1 : Int := if (((List.length a0) : Nat) : Int) < a1 then (((List.length a0) : Nat) : Int) else a1
  let x2 : Int := if x1 > (0 : Int) then x1 else (0 : Int)
  K0 a0 x2 (0 : Int) (0 : Int) x2
noncomputable def f110 (m : Nat) (a0 : List UInt8) (a1 : Int) (K0 : List UInt8 → Int → Int → Int → Int → Option R) : Option R := iter (f110.step m K0) m (.s0 a0 a1)
noncomputable def f110.pc (m : Nat) (other : Con R) : Con R := pcon [.p (.dat .str), .p (.dat (.int .i64))] [] (fun x y K => f110 m (x.1) (x.2.1) (fun r0 r1 r2 r3 r4 => K (.ptr 0 0) [.box [.pv .str r0, .pv (.int .i64) r1, .pv (.int .u64) r2, .pv (.int .i64) r3, .pv (.int .i64) r4] 180])) other
noncomputable def f110.ct (m : Nat) (f : Nat) : Option (List Mode × Con R) := match f with
  | _ => none
theorem f110.seg (m : Nat) : Seg (f110.ct (R := R) m) f110.C 0 Tryz.f110 none f110.todo f110.fr f110.hp (fun K => f110.step m (fun r0 r1 r2 r3 r4 => K (.ptr 0 0) [.box [.pv .str r0, .pv (.int .i64) r1, .pv (.int .u64) r2, .pv (.int .i64) r3, .pv (.int .i64) r4] 180])) := fun K call s => by cases s <;> kernel_rfl
theorem f110.ctok (hl : Laid G H0) (m : Nat) : CtOk G H0 (f110.ct (R := R) m) := fun f ms F h => nomatch h
theorem f110.ok (hl : Laid G H0) (m : Nat) {other : Con R} (ho : FOk Tryz.prog G H0 110 other) : FOk Tryz.prog G H0 110 (f110.pc m other) :=
  seg_ok (c := bodyOf Tryz.f110) (by kernel_rfl) (by kernel_rfl) ho (f110.ctok hl m) m (f110.seg m) (fun x y => .s0 (x.1) (x.2.1)) (fun x y K => by kernel_rfl) fun _ _ _ => rfl

noncomputable def f175.C : Cuts := ⟨(fun q => match q with
  | 0 => some { live := [0, 1], adopt := [] }
  | _ => none), (fun _ => none)⟩
inductive f175.St where
  | s0 (a0 : Int) (a1 : List UInt8) (a2 : Int) (a3 : Int) (a4 : Int) (a5 : Int)
  | s1 (a0 : Int) (a1 : List UInt8) (a2 : Int) (a3 : Int) (a4 : Int) (a5 : Int)
noncomputable def f175.todo : f175.St → List Item
  | .s0 _ _ _ _ _ _ => [.code (bodyOf Tryz.f175)]
  | .s1 _ _ _ _ _ _ => atBef Tryz.f175 0
noncomputable def f175.fr : f175.St → List SV
  | .s0 a0 a1 a2 a3 a4 a5 => .ptr 0 0 :: .pv (.int .i64) a0 :: ud 56 []
  | .s1 a0 a1 a2 a3 a4 a5 => .ptr 0 0 :: .pv (.int .i64) a0 :: dd 56 []
noncomputable def f175.hp : f175.St → List Blk
  | .s0 a0 a1 a2 a3 a4 a5 => [.box [.pv .str a1, .pv (.int .i64) a2, .pv (.int .u64) a3, .pv (.int .i64) a4, .pv (.int .i64) a5] 180]
  | .s1 a0 a1 a2 a3 a4 a5 => [.box [.pv .str a1, .pv (.int .i64) a2, .pv (.int .u64) a3, .pv (.int .i64) a4, .pv (.int .i64) a5] 180]
noncomputable def f175.step (m : Nat) (K0 : List UInt8 → Int → Int → Int → Int → Option R) (call : f175.St → Option R) : f175.St → Option R
  | .s0 a0 a1 a2 a3 a4 a5 => 
  bif (decide (a4 < a0)) then
   bif (decide (a2 < (((List.length a1) : Nat) : Int))) then
    bif (inB a2 (List.length a1)) then
     bif (decide ((0 : Int) ≤ a4)) then
      call (.s1 a0 a1 (IntKind.wrap .i64 (a2 + (1 : Int))) (ibits .or .u64 a3 (IntKind.wrap .u64 ((IntKind.wrap .u64 ((UInt8.toNat (List.getD a1 (Int.toNat a2) 0) : Nat) : Int)) * ((2 : Int) ^ (min (Int.toNat a4) 64))))) (IntKind.wrap .i64 (a4 + (8 : Int))) a5)
     else
      none
    else
     none
   else
    K0 a1 a2 a3 a4 a5
  else
   K0 a1 a2 a3 a4 a5
  | .s1 a0 a1 a2 a3 a4 a5 => 
  bif (decide (a4 < a0)) then
   bif (decide (a2 < (((List.length a1) : Nat) : Int))) then
    bif (inB a2 (List.length a1)) then
     bif (decide ((0 : Int) ≤ a4)) then
      call (.s1 a0 a1 (IntKind.wrap .i64 (a2 + (1 : Int))) (ibits .or .u64 a3 (IntKind.wrap .u64 ((IntKind.wrap .u64 ((UInt8.toNat (List.getD a1 (Int.toNat a2) 0) : Nat) : Int)) * ((2 : Int) ^ (min (Int.toNat a4) 64))))) (IntKind.wrap .i64 (a4 + (8 : Int))) a5)
     else
      none
    else
     none
   else
    K0 a1 a2 a3 a4 a5
  else
   K0 a1 a2 a3 a4 a5
noncomputable def f175 (m : Nat) (a0 : Int) (a1 : List UInt8) (a2 : Int) (a3 : Int) (a4 : Int) (a5 : Int) (K0 : List UInt8 → Int → Int → Int → Int → Option R) : Option R := iter (f175.step m K0) m (.s0 a0 a1 a2 a3 a4 a5)
noncomputable def f175.pc (m : Nat) (other : Con R) : Con R := pcon [.p (.ptr 0 0), .p (.dat (.int .i64))] [.box [.dat .str, .dat (.int .i64), .dat (.int .u64), .dat (.int .i64), .dat (.int .i64)] 180] (fun x y K => f175 m (x.2.1) (y.1.1) (y.1.2.1) (y.1.2.2.1) (y.1.2.2.2.1) (y.1.2.2.2.2.1) (fun r0 r1 r2 r3 r4 => K (.tup []) [.box [.pv .str r0, .pv (.int .i64) r1, .pv (.int .u64) r2, .pv (.int .i64) r3, .pv (.int .i64) r4] 180])) other
noncomputable def f175.ct (m : Nat) (f : Nat) : Option (List Mode × Con R) := match f with
  | _ => none
theorem f175.seg (m : Nat) : Seg (f175.ct (R := R) m) f175.C 1 Tryz.f175 (some []) f175.todo f175.fr f175.hp (fun K => f175.step m (fun r0 r1 r2 r3 r4 => K (.tup []) [.box [.pv .str r0, .pv (.int .i64) r1, .pv (.int .u64) r2, .pv (.int .i64) r3, .pv (.int .i64) r4] 180])) := fun K call s => by cases s <;> kernel_rfl
theorem f175.ctok (hl : Laid G H0) (m : Nat) : CtOk G H0 (f175.ct (R := R) m) := fun f ms F h => nomatch h
theorem f175.ok (hl : Laid G H0) (m : Nat) {other : Con R} (ho : FOk Tryz.prog G H0 175 other) : FOk Tryz.prog G H0 175 (f175.pc m other) :=
  seg_ok (c := bodyOf Tryz.f175) (by kernel_rfl) (by kernel_rfl) ho (f175.ctok hl m) m (f175.seg m) (fun x y => .s0 (x.2.1) (y.1.1) (y.1.2.1) (y.1.2.2.1) (y.1.2.2.2.1) (y.1.2.2.2.2.1)) (fun x y K => by kernel_rfl) fun _ _ _ => rfl

noncomputable def f156.C : Cuts := ⟨(fun q => match q with
  | _ => none), (fun _ => none)⟩
inductive f156.St where
  | s0 (a0 : Int) (a1 : List UInt8) (a2 : Int) (a3 : Int) (a4 : Int) (a5 : Int)
noncomputable def f156.todo : f156.St → List Item
  | .s0 _ _ _ _ _ _ => [.code (bodyOf Tryz.f156)]
noncomputable def f156.fr : f156.St → List SV
  | .s0 a0 a1 a2 a3 a4 a5 => .ptr 0 0 :: .pv (.int .i64) a0 :: ud 28 []
noncomputable def f156.hp : f156.St → List Blk
  | .s0 a0 a1 a2 a3 a4 a5 => [.box [.pv .str a1, .pv (.int .i64) a2, .pv (.int .u64) a3, .pv (.int .i64) a4, .pv (.int .i64) a5] 180]
noncomputable def f156.step (m : Nat) (K0 : Int → Int → List UInt8 → Int → Int → Int → Int → Option R) (call : f156.St → Option R) : f156.St → Option R
  | .s0 a0 a1 a2 a3 a4 a5 => 
  bif (!(decide (a0 < (0 : Int)))) then
   bif (decide ((32 : Int) < a0)) then
    K0 (0 : Int) (0 : Int) a1 a2 a3 a4 a5
   else
    f175 m a0 a1 a2 a3 a4 a5 (fun (r1 : List UInt8) (r2 : Int) (r3 : Int) (r4 : Int) (r5 : Int) =>
     bif (decide ((0 : Int) ≤ a0)) then
      K0 (IntKind.wrap .u32 (ibits .and .u64 r3 (IntKind.wrap .u64 ((IntKind.wrap .u64 ((1 : Int) * ((2 : Int) ^ (min (Int.toNat a0) 64)))) - (1 : Int))))) (if r4 < a0 then r4 else a0) r1 r2 r3 r4 r5
     else
      none)
  else
   K0 (0 : Int) (0 : Int) a1 a2 a3 a4 a5
noncomputable def f156 (m : Nat) (a0 : Int) (a1 : List UInt8) (a2 : Int) (a3 : Int) (a4 : Int) (a5 : Int) (K0 : Int → Int → List UInt8 → Int → Int → Int → Int → Option R) : Option R := iter (f156.step m K0) m (.s0 a0 a1 a2 a3 a4 a5)
noncomputable def f156.pc (m : Nat) (other : Con R) : Con R := pcon [.p (.ptr 0 0), .p (.dat (.int .i64))] [.box [.dat .str, .dat (.int .i64), .dat (.int .u64), .dat (.int .i64), .dat (.int .i64)] 180] (fun x y K => f156 m (x.2.1) (y.1.1) (y.1.2.1) (y.1.2.2.1) (y.1.2.2.2.1) (y.1.2.2.2.2.1) (fun r0 r1 r2 r3 r4 r5 r6 => K (.tup [.pv (.int .u32) r0, .pv (.int .i64) r1]) [.box [.pv .str r2, .pv (.int .i64) r3, .pv (.int .u64) r4, .pv (.int .i64) r5, .pv (.int .i64) r6] 180])) other
noncomputable def f156.ct (m : Nat) (f : Nat) : Option (List Mode × Con R) := match f with
  | 175 => some ([.own, .bor], (f175.pc m ncon))
  | _ => none
theorem f156.seg (m : Nat) : Seg (f156.ct (R := R) m) f156.C 1 Tryz.f156 (some [some (.int .u32), some (.int .i64)]) f156.todo f156.fr f156.hp (fun K => f156.step m (fun r0 r1 r2 r3 r4 r5 r6 => K (.tup [.pv (.int .u32) r0, .pv (.int .i64) r1]) [.box [.pv .str r2, .pv (.int .i64) r3, .pv (.int .u64) r4, .pv (.int .i64) r5, .pv (.int .i64) r6] 180])) := fun K call s => by cases s <;> kernel_rfl
theorem pl175 : Plain Tryz.prog 175 := ⟨Tryz.f175, by kernel_rfl, by kernel_rfl, by kernel_rfl⟩
theorem f156.ctok (hl : Laid G H0) (m : Nat) : CtOk G H0 (f156.ct (R := R) m) := by
  intro f ms F h
  unfold f156.ct at h
  split at h
  · exact ctk h pl175 (f175.ok hl m (ncon_ok _))
  · cases h
theorem f156.ok (hl : Laid G H0) (m : Nat) {other : Con R} (ho : FOk Tryz.prog G H0 156 other) : FOk Tryz.prog G H0 156 (f156.pc m other) :=
  seg_ok (c := bodyOf Tryz.f156) (by kernel_rfl) (by kernel_rfl) ho (f156.ctok hl m) m (f156.seg m) (fun x y => .s0 (x.2.1) (y.1.1) (y.1.2.1) (y.1.2.2.1) (y.1.2.2.2.1) (y.1.2.2.2.2.1)) (fun x y K => by kernel_rfl) fun _ _ _ => rfl

noncomputable def f157.C : Cuts := ⟨(fun q => match q with
  | _ => none), (fun _ => none)⟩
inductive f157.St where
  | s0 (a0 : Int) (a1 : List UInt8) (a2 : Int) (a3 : Int) (a4 : Int) (a5 : Int)
noncomputable def f157.todo : f157.St → List Item
  | .s0 _ _ _ _ _ _ => [.code (bodyOf Tryz.f157)]
noncomputable def f157.fr : f157.St → List SV
  | .s0 a0 a1 a2 a3 a4 a5 => .ptr 0 0 :: .pv (.int .i64) a0 :: ud 34 []
noncomputable def f157.hp : f157.St → List Blk
  | .s0 a0 a1 a2 a3 a4 a5 => [.box [.pv .str a1, .pv (.int .i64) a2, .pv (.int .u64) a3, .pv (.int .i64) a4, .pv (.int .i64) a5] 180]
noncomputable def f157.step (m : Nat) (K0 : Bool → List UInt8 → Int → Int → Int → Int → Option R) (call : f157.St → Option R) : f157.St → Option R
  | .s0 a0 a1 a2 a3 a4 a5 => 
  bif (!(decide (a0 < (0 : Int)))) then
   bif (decide ((32 : Int) < a0)) then
    K0 false a1 a2 a3 a4 a5
   else
    f175 m a0 a1 a2 a3 a4 a5 (fun (r1 : List UInt8) (r2 : Int) (r3 : Int) (r4 : Int) (r5 : Int) =>
     bif (decide (r4 < a0)) then
      K0 false r1 r2 r3 r4 r5
     else
      bif (decide ((0 : Int) ≤ a0)) then
       K0 true r1 r2 (Int.fdiv r3 ((2 : Int) ^ (min (Int.toNat a0) 64))) (IntKind.wrap .i64 (r4 - a0)) r5
      else
       none)
  else
   K0 false a1 a2 a3 a4 a5
noncomputable def f157 (m : Nat) (a0 : Int) (a1 : List UInt8) (a2 : Int) (a3 : Int) (a4 : Int) (a5 : Int) (K0 : Bool → List UInt8 → Int → Int → Int → Int → Option R) : Option R := iter (f157.step m K0) m (.s0 a0 a1 a2 a3 a4 a5)
noncomputable def f157.pc (m : Nat) (other : Con R) : Con R := pcon [.p (.ptr 0 0), .p (.dat (.int .i64))] [.box [.dat .str, .dat (.int .i64), .dat (.int .u64), .dat (.int .i64), .dat (.int .i64)] 180] (fun x y K => f157 m (x.2.1) (y.1.1) (y.1.2.1) (y.1.2.2.1) (y.1.2.2.2.1) (y.1.2.2.2.2.1) (fun r0 r1 r2 r3 r4 r5 => K (.pv .bool r0) [.box [.pv .str r1, .pv (.int .i64) r2, .pv (.int .u64) r3, .pv (.int .i64) r4, .pv (.int .i64) r5] 180])) other
noncomputable def f157.ct (m : Nat) (f : Nat) : Option (List Mode × Con R) := match f with
  | 175 => some ([.own, .bor], (f175.pc m ncon))
  | _ => none
theorem f157.seg (m : Nat) : Seg (f157.ct (R := R) m) f157.C 1 Tryz.f157 (some [some .bool]) f157.todo f157.fr f157.hp (fun K => f157.step m (fun r0 r1 r2 r3 r4 r5 => K (.pv .bool r0) [.box [.pv .str r1, .pv (.int .i64) r2, .pv (.int .u64) r3, .pv (.int .i64) r4, .pv (.int .i64) r5] 180])) := fun K call s => by cases s <;> kernel_rfl
theorem f157.ctok (hl : Laid G H0) (m : Nat) : CtOk G H0 (f157.ct (R := R) m) := by
  intro f ms F h
  unfold f157.ct at h
  split at h
  · exact ctk h pl175 (f175.ok hl m (ncon_ok _))
  · cases h
theorem f157.ok (hl : Laid G H0) (m : Nat) {other : Con R} (ho : FOk Tryz.prog G H0 157 other) : FOk Tryz.prog G H0 157 (f157.pc m other) :=
  seg_ok (c := bodyOf Tryz.f157) (by kernel_rfl) (by kernel_rfl) ho (f157.ctok hl m) m (f157.seg m) (fun x y => .s0 (x.2.1) (y.1.1) (y.1.2.1) (y.1.2.2.1) (y.1.2.2.2.1) (y.1.2.2.2.2.1)) (fun x y K => by kernel_rfl) fun _ _ _ => rfl

noncomputable def f137.C : Cuts := ⟨(fun q => match q with
  | _ => none), (fun _ => none)⟩
inductive f137.St where
  | s0 (a0 : Int) (a1 : List UInt8) (a2 : Int) (a3 : Int) (a4 : Int) (a5 : Int)
noncomputable def f137.todo : f137.St → List Item
  | .s0 _ _ _ _ _ _ => [.code (bodyOf Tryz.f137)]
noncomputable def f137.fr : f137.St → List SV
  | .s0 a0 a1 a2 a3 a4 a5 => .ptr 0 0 :: .pv (.int .i64) a0 :: ud 17 []
noncomputable def f137.hp : f137.St → List Blk
  | .s0 a0 a1 a2 a3 a4 a5 => [.box [.pv .str a1, .pv (.int .i64) a2, .pv (.int .u64) a3, .pv (.int .i64) a4, .pv (.int .i64) a5] 180]
noncomputable def f137.step (m : Nat) (K0 : Int → Bool → List UInt8 → Int → Int → Int → Int → Option R) (call : f137.St → Option R) : f137.St → Option R
  | .s0 a0 a1 a2 a3 a4 a5 => 
  f156 m a0 a1 a2 a3 a4 a5 (fun (r1 : Int) (r2 : Int) (r3 : List UInt8) (r4 : Int) (r5 : Int) (r6 : Int) (r7 : Int) =>
   f157 m a0 r3 r4 r5 r6 r7 (fun (r8 : Bool) (r9 : List UInt8) (r10 : Int) (r11 : Int) (r12 : Int) (r13 : Int) =>
    bif (!r8) then
     K0 (0 : Int) false r9 r10 r11 r12 r13
    else
     K0 r1 true r9 r10 r11 r12 r13))
noncomputable def f137 (m : Nat) (a0 : Int) (a1 : List UInt8) (a2 : Int) (a3 : Int) (a4 : Int) (a5 : Int) (K0 : Int → Bool → List UInt8 → Int → Int → Int → Int → Option R) : Option R := iter (f137.step m K0) m (.s0 a0 a1 a2 a3 a4 a5)
noncomputable def f137.pc (m : Nat) (other : Con R) : Con R := pcon [.p (.ptr 0 0), .p (.dat (.int .i64))] [.box [.dat .str, .dat (.int .i64), .dat (.int .u64), .dat (.int .i64), .dat (.int .i64)] 180] (fun x y K => f137 m (x.2.1) (y.1.1) (y.1.2.1) (y.1.2.2.1) (y.1.2.2.2.1) (y.1.2.2.2.2.1) (fun r0 r1 r2 r3 r4 r5 r6 => K (.tup [.pv (.int .u32) r0, .pv .bool r1]) [.box [.pv .str r2, .pv (.int .i64) r3, .pv (.int .u64) r4, .pv (.int .i64) r5, .pv (.int .i64) r6] 180])) other
noncomputable def f137.ct (m : Nat) (f : Nat) : Option (List Mode × Con R) := match f with
  | 156 => some ([.own, .bor], (f156.pc m ncon))
  | 157 => some ([.own, .bor], (f157.pc m ncon))
  | _ => none
theorem f137.seg (m : Nat) : Seg (f137.ct (R := R) m) f137.C 1 Tryz.f137 (some [some (.int .u32), some .bool]) f137.todo f137.fr f137.hp (fun K => f137.step m (fun r0 r1 r2 r3 r4 r5 r6 => K (.tup [.pv (.int .u32) r0, .pv .bool r1]) [.box [.pv .str r2, .pv (.int .i64) r3, .pv (.int .u64) r4, .pv (.int .i64) r5, .pv (.int .i64) r6] 180])) := fun K call s => by cases s <;> kernel_rfl
theorem pl156 : Plain Tryz.prog 156 := ⟨Tryz.f156, by kernel_rfl, by kernel_rfl, by kernel_rfl⟩
theorem pl157 : Plain Tryz.prog 157 := ⟨Tryz.f157, by kernel_rfl, by kernel_rfl, by kernel_rfl⟩
theorem f137.ctok (hl : Laid G H0) (m : Nat) : CtOk G H0 (f137.ct (R := R) m) := by
  intro f ms F h
  unfold f137.ct at h
  split at h
  · exact ctk h pl156 (f156.ok hl m (ncon_ok _))
  · exact ctk h pl157 (f157.ok hl m (ncon_ok _))
  · cases h
theorem f137.ok (hl : Laid G H0) (m : Nat) {other : Con R} (ho : FOk Tryz.prog G H0 137 other) : FOk Tryz.prog G H0 137 (f137.pc m other) :=
  seg_ok (c := bodyOf Tryz.f137) (by kernel_rfl) (by kernel_rfl) ho (f137.ctok hl m) m (f137.seg m) (fun x y => .s0 (x.2.1) (y.1.1) (y.1.2.1) (y.1.2.2.1) (y.1.2.2.2.1) (y.1.2.2.2.2.1)) (fun x y K => by kernel_rfl) fun _ _ _ => rfl

noncomputable def f176.C : Cuts := ⟨(fun q => match q with
  | _ => none), (fun _ => none)⟩
inductive f176.St where
  | s0 (a0 : List UInt8) (a1 : Int) (a2 : Int) (a3 : Int) (a4 : Int)
noncomputable def f176.todo : f176.St → List Item
  | .s0 _ _ _ _ _ => [.code (bodyOf Tryz.f176)]
noncomputable def f176.fr : f176.St → List SV
  | .s0 a0 a1 a2 a3 a4 => .ptr 0 0 :: ud 23 []
noncomputable def f176.hp : f176.St → List Blk
  | .s0 a0 a1 a2 a3 a4 => [.box [.pv .str a0, .pv (.int .i64) a1, .pv (.int .u64) a2, .pv (.int .i64) a3, .pv (.int .i64) a4] 180]
noncomputable def f176.step (m : Nat) (K0 : List UInt8 → Int → Int → Int → Int → Option R) (call : f176.St → Option R) : f176.St → Option R
  | .s0 a0 a1 a2 a3 a4 => 
  let x1 : Int := Int.tmod a3 (8 : Int)
  bif (decide ((0 : Int) ≤ x1)) then
   K0 a0 a1 (Int.fdiv a2 ((2 : Int) ^ (min (Int.toNat x1) 64))) (IntKind.wrap .i64 (a3 - x1)) a4
  else
   none
noncomputable def f176 (m : Nat) (a0 : List UInt8) (a1 : Int) (a2 : Int) (a3 : Int) (a4 : Int) (K0 : List UInt8 → Int → Int → Int → Int → Option R) : Option R := iter (f176.step m K0) m (.s0 a0 a1 a2 a3 a4)
noncomputable def f176.pc (m : Nat) (other : Con R) : Con R := pcon [.p (.ptr 0 0)] [.box [.dat .str, .dat (.int .i64), .dat (.int .u64), .dat (.int .i64), .dat (.int .i64)] 180] (fun x y K => f176 m (y.1.1) (y.1.2.1) (y.1.2.2.1) (y.1.2.2.2.1) (y.1.2.2.2.2.1) (fun r0 r1 r2 r3 r4 => K (.tup []) [.box [.pv .str r0, .pv (.int .i64) r1, .pv (.int .u64) r2, .pv (.int .i64) r3, .pv (.int .i64) r4] 180])) other
noncomputable def f176.ct (m : Nat) (f : Nat) : Option (List Mode × Con R) := match f with
  | _ => none
theorem f176.seg (m : Nat) : Seg (f176.ct (R := R) m) f176.C 1 Tryz.f176 (some []) f176.todo f176.fr f176.hp (fun K => f176.step m (fun r0 r1 r2 r3 r4 => K (.tup []) [.box [.pv .str r0, .pv (.int .i64) r1, .pv (.int .u64) r2, .pv (.int .i64) r3, .pv (.int .i64) r4] 180])) := fun K call s => by cases s <;> kernel_rfl
theorem f176.ctok (hl : Laid G H0) (m : Nat) : CtOk G H0 (f176.ct (R := R) m) := fun f ms F h => nomatch h
theorem f176.ok (hl : Laid G H0) (m : Nat) {other : Con R} (ho : FOk Tryz.prog G H0 176 other) : FOk Tryz.prog G H0 176 (f176.pc m other) :=
  seg_ok (c := bodyOf Tryz.f176) (by kernel_rfl) (by kernel_rfl) ho (f176.ctok hl m) m (f176.seg m) (fun x y => .s0 (y.1.1) (y.1.2.1) (y.1.2.2.1) (y.1.2.2.2.1) (y.1.2.2.2.2.1)) (fun x y K => by kernel_rfl) fun _ _ _ => rfl

noncomputable def f158.C : Cuts := ⟨(fun q => match q with
  | _ => none), (fun _ => none)⟩
inductive f158.St where
  | s0 (a0 : Int) (a1 : List UInt8) (a2 : Int) (a3 : Int) (a4 : Int) (a5 : Int)
noncomputable def f158.todo : f158.St → List Item
  | .s0 _ _ _ _ _ _ => [.code (bodyOf Tryz.f158)]
noncomputable def f158.fr : f158.St → List SV
  | .s0 a0 a1 a2 a3 a4 a5 => .ptr 0 0 :: .pv (.int .i64) a0 :: ud 51 []
noncomputable def f158.hp : f158.St → List Blk
  | .s0 a0 a1 a2 a3 a4 a5 => [.box [.pv .str a1, .pv (.int .i64) a2, .pv (.int .u64) a3, .pv (.int .i64) a4, .pv (.int .i64) a5] 180]
noncomputable def f158.step (m : Nat) (K0 : List UInt8 → Bool → List UInt8 → Int → Int → Int → Int → Option R) (call : f158.St → Option R) : f158.St → Option R
  | .s0 a0 a1 a2 a3 a4 a5 => 
  f176 m a1 a2 a3 a4 a5 (fun (r1 : List UInt8) (r2 : Int) (r3 : Int) (r4 : Int) (r5 : Int) =>
   let x7 : Int := IntKind.wrap .i64 (r2 - (IntKind.wrap .i64 (Int.tdiv r4 (8 : Int))))
   bif (!(decide (a0 < (0 : Int)))) then
    bif (decide ((IntKind.wrap .i64 ((((List.length r1) : Nat) : Int) - x7)) < a0)) then
     K0 ([] : List UInt8) false r1 r2 r3 r4 r5
    else
     let x10 : Int := IntKind.wrap .i64 (x7 + a0)
     bif (leB x10 (List.length r1)) then
      bif (leB x7 (Int.toNat x10)) then
       K0 (List.drop (Int.toNat x7) (List.take (Int.toNat x10) r1)) true r1 (IntKind.wrap .i64 (x7 + a0)) (0 : Int) (0 : Int) r5
      else
       none
     else
      none
   else
    K0 ([] : List UInt8) false r1 r2 r3 r4 r5)
noncomputable def f158 (m : Nat) (a0 : Int) (a1 : List UInt8) (a2 : Int) (a3 : Int) (a4 : Int) (a5 : Int) (K0 : List UInt8 → Bool → List UInt8 → Int → Int → Int → Int → Option R) : Option R := iter (f158.step m K0) m (.s0 a0 a1 a2 a3 a4 a5)
noncomputable def f158.pc (m : Nat) (other : Con R) : Con R := pcon [.p (.ptr 0 0), .p (.dat (.int .i64))] [.box [.dat .str, .dat (.int .i64), .dat (.int .u64), .dat (.int .i64), .dat (.int .i64)] 180] (fun x y K => f158 m (x.2.1) (y.1.1) (y.1.2.1) (y.1.2.2.1) (y.1.2.2.2.1) (y.1.2.2.2.2.1) (fun r0 r1 r2 r3 r4 r5 r6 => K (.tup [.pv .str r0, .pv .bool r1]) [.box [.pv .str r2, .pv (.int .i64) r3, .pv (.int .u64) r4, .pv (.int .i64) r5, .pv (.int .i64) r6] 180])) other
noncomputable def f158.ct (m : Nat) (f : Nat) : Option (List Mode × Con R) := match f with
  | 176 => some ([.own], (f176.pc m ncon))
  | _ => none
theorem f158.seg (m : Nat) : Seg (f158.ct (R := R) m) f158.C 1 Tryz.f158 (some [some .str, some .bool]) f158.todo f158.fr f158.hp (fun K => f158.step m (fun r0 r1 r2 r3 r4 r5 r6 => K (.tup [.pv .str r0, .pv .bool r1]) [.box [.pv .str r2, .pv (.int .i64) r3, .pv (.int .u64) r4, .pv (.int .i64) r5, .pv (.int .i64) r6] 180])) := fun K call s => by cases s <;> kernel_rfl
theorem pl176 : Plain Tryz.prog 176 := ⟨Tryz.f176, by kernel_rfl, by kernel_rfl, by kernel_rfl⟩
theorem f158.ctok (hl : Laid G H0) (m : Nat) : CtOk G H0 (f158.ct (R := R) m) := by
  intro f ms F h
  unfold f158.ct at h
  split at h
  · exact ctk h pl176 (f176.ok hl m (ncon_ok _))
  · cases h
theorem f158.ok (hl : Laid G H0) (m : Nat) {other : Con R} (ho : FOk Tryz.prog G H0 158 other) : FOk Tryz.prog G H0 158 (f158.pc m other) :=
  seg_ok (c := bodyOf Tryz.f158) (by kernel_rfl) (by kernel_rfl) ho (f158.ctok hl m) m (f158.seg m) (fun x y => .s0 (x.2.1) (y.1.1) (y.1.2.1) (y.1.2.2.1) (y.1.2.2.2.1) (y.1.2.2.2.2.1)) (fun x y K => by kernel_rfl) fun _ _ _ => rfl

noncomputable def f159.C : Cuts := ⟨(fun q => match q with
  | 3 => some { live := [0, 3, 7, 8], adopt := [] }
  | _ => none), (fun _ => none)⟩
inductive f159.St where
  | s0 (a0 : List UInt8)
  | s1 (a0 : List UInt8) (a1 : Int) (a2 : Int) (a3 : Int)
noncomputable def f159.todo : f159.St → List Item
  | .s0 _ => [.code (bodyOf Tryz.f159)]
  | .s1 _ _ _ _ => atBef Tryz.f159 3
noncomputable def f159.fr : f159.St → List SV
  | .s0 a0 => .pv .str a0 :: ud 21 []
  | .s1 a0 a1 a2 a3 => .pv .str a0 :: .dead :: .dead :: .pv (.int .u64) a1 :: dd 3 (.pv (.int .i64) a2 :: .pv (.int .i64) a3 :: dd 13 [])
noncomputable def f159.hp : f159.St → List Blk
  | .s0 a0 => []
  | .s1 a0 a1 a2 a3 => []
noncomputable def f159.step (m : Nat) (K0 : Int → Option R) (call : f159.St → Option R) : f159.St → Option R
  | .s0 a0 => 
  call (.s1 a0 (0 : Int) (if (8 : Int) < (((List.length a0) : Nat) : Int) then (8 : Int) else (((List.length a0) : Nat) : Int)) (0 : Int))
  | .s1 a0 a1 a2 a3 => 
  bif (decide (a3 < a2)) then
   bif (inB a3 (List.length a0)) then
    let x3 : Int := IntKind.wrap .i64 ((8 : Int) * a3)
    bif (decide ((0 : Int) ≤ x3)) then
     call (.s1 a0 (ibits .or .u64 a1 (IntKind.wrap .u64 ((IntKind.wrap .u64 ((UInt8.toNat (List.getD a0 (Int.toNat a3) 0) : Nat) : Int)) * ((2 : Int) ^ (min (Int.toNat x3) 64))))) a2 (IntKind.wrap .i64 (a3 + (1 : Int))))
    else
     none
   else
    none
  else
   K0 a1
noncomputable def f159 (m : Nat) (a0 : List UInt8) (K0 : Int → Option R) : Option R := iter (f159.step m K0) m (.s0 a0)
noncomputable def f159.pc (m : Nat) (other : Con R) : Con R := pcon [.p (.dat .str)] [] (fun x y K => f159 m (x.1) (fun r0 => K (.pv (.int .u64) r0) [])) other
noncomputable def f159.ct (m : Nat) (f : Nat) : Option (List Mode × Con R) := match f with
  | _ => none
theorem f159.seg (m : Nat) : Seg (f159.ct (R := R) m) f159.C 0 Tryz.f159 (some [some (.int .u64)]) f159.todo f159.fr f159.hp (fun K => f159.step m (fun r0 => K (.pv (.int .u64) r0) [])) := fun K call s => by cases s <;> kernel_rfl
theorem f159.ctok (hl : Laid G H0) (m : Nat) : CtOk G H0 (f159.ct (R := R) m) := fun f ms F h => nomatch h
theorem f159.ok (hl : Laid G H0) (m : Nat) {other : Con R} (ho : FOk Tryz.prog G H0 159 other) : FOk Tryz.prog G H0 159 (f159.pc m other) :=
  seg_ok (c := bodyOf Tryz.f159) (by kernel_rfl) (by kernel_rfl) ho (f159.ctok hl m) m (f159.seg m) (fun x y => .s0 (x.1)) (fun x y K => by kernel_rfl) fun _ _ _ => rfl

noncomputable def f160.C : Cuts := ⟨(fun q => match q with
  | _ => none), (fun _ => none)⟩
inductive f160.St where
  | s0 (a0 : Option ((List UInt8 × (Int × (Int × (Int × Int))))))
noncomputable def f160.todo : f160.St → List Item
  | .s0 _ => [.code (bodyOf Tryz.f160)]
noncomputable def f160.fr : f160.St → List SV
  | .s0 a0 => .pv (.ptr (.prod .str (.prod (.int .i64) (.prod (.int .u64) (.prod (.int .i64) (.int .i64)))))) a0 :: ud 18 []
noncomputable def f160.hp : f160.St → List Blk
  | .s0 a0 => []
noncomputable def f160.step (m : Nat) (K0 : Int → Option R) (call : f160.St → Option R) : f160.St → Option R
  | .s0 a0 => 
  deref a0 fun (p1 : (List UInt8 × (Int × (Int × (Int × Int))))) =>
  deref a0 fun (p2 : (List UInt8 × (Int × (Int × (Int × Int))))) =>
  deref a0 fun (p5 : (List UInt8 × (Int × (Int × (Int × Int))))) =>
  K0 (IntKind.wrap .i64 ((IntKind.wrap .i64 ((8 : Int) * (IntKind.wrap .i64 ((((List.length p1.1) : Nat) : Int) - p2.2.1)))) + p5.2.2.2.1))
noncomputable def f160 (m : Nat) (a0 : Option ((List UInt8 × (Int × (Int × (Int × Int)))))) (K0 : Int → Option R) : Option R := iter (f160.step m K0) m (.s0 a0)
noncomputable def f160.pc (m : Nat) (other : Con R) : Con R := pcon [.p (.dat (.ptr (.prod .str (.prod (.int .i64) (.prod (.int .u64) (.prod (.int .i64) (.int .i64)))))))] [] (fun x y K => f160 m (x.1) (fun r0 => K (.pv (.int .i64) r0) [])) other
noncomputable def f160.ct (m : Nat) (f : Nat) : Option (List Mode × Con R) := match f with
  | _ => none
theorem f160.seg (m : Nat) : Seg (f160.ct (R := R) m) f160.C 0 Tryz.f160 (some [some (.int .i64)]) f160.todo f160.fr f160.hp (fun K => f160.step m (fun r0 => K (.pv (.int .i64) r0) [])) := fun K call s => by cases s <;> kernel_rfl
theorem f160.ctok (hl : Laid G H0) (m : Nat) : CtOk G H0 (f160.ct (R := R) m) := fun f ms F h => nomatch h
theorem f160.ok (hl : Laid G H0) (m : Nat) {other : Con R} (ho : FOk Tryz.prog G H0 160 other) : FOk Tryz.prog G H0 160 (f160.pc m other) :=
  seg_ok (c := bodyOf Tryz.f160) (by kernel_rfl) (by kernel_rfl) ho (f160.ctok hl m) m (f160.seg m) (fun x y => .s0 (x.1)) (fun x y K => by kernel_rfl) fun _ _ _ => rfl

noncomputable def f138.C : Cuts := ⟨(fun q => match q with
  | 10 => some { live := [0, 4, 6], adopt := [] }
  | _ => none), (fun _ => none)⟩
inductive f138.St where
  | s0 (a0 : Int) (a1 : List UInt8) (a2 : Int) (a3 : Int) (a4 : Int) (a5 : Int)
  | s1 (a0 : Bool) (a1 : List UInt8) (a2 : Int) (a3 : List UInt8) (a4 : Int) (a5 : Int) (a6 : Int) (a7 : Int)
noncomputable def f138.todo : f138.St → List Item
  | .s0 _ _ _ _ _ _ => [.code (bodyOf Tryz.f138)]
  | .s1 _ _ _ _ _ _ _ _ => atBef Tryz.f138 10
noncomputable def f138.fr : f138.St → List SV
  | .s0 a0 a1 a2 a3 a4 a5 => .ptr 0 0 :: ud 76 []
  | .s1 a0 a1 a2 a3 a4 a5 a6 a7 => .ptr 0 0 :: dd 3 (.pv .bool a0 :: .dead :: .pv .str a1 :: dd 70 [])
noncomputable def f138.hp : f138.St → List Blk
  | .s0 a0 a1 a2 a3 a4 a5 => [.box [.ptr 1 0, .nils, .pv (.int .i64) a0] 144, .box [.pv .str a1, .pv (.int .i64) a2, .pv (.int .u64) a3, .pv (.int .i64) a4, .pv (.int .i64) a5] 180]
  | .s1 a0 a1 a2 a3 a4 a5 a6 a7 => [.box [.ptr 1 0, .nils, .pv (.int .i64) a2] 144, .box [.pv .str a3, .pv (.int .i64) a4, .pv (.int .u64) a5, .pv (.int .i64) a6, .pv (.int .i64) a7] 180]
noncomputable def f138.step (m : Nat) (K0 : Int → Int → List UInt8 → Int → Int → Int → Int → Option R) (K1 : Int → Int → List UInt8 → Int → Int → Int → Int → List Int → Option R) (call : f138.St → Option R) : f138.St → Option R
  | .s0 a0 a1 a2 a3 a4 a5 => 
  f158 m (4 : Int) a1 a2 a3 a4 a5 (fun (r1 : List UInt8) (r2 : Bool) (r3 : List UInt8) (r4 : Int) (r5 : Int) (r6 : Int) (r7 : Int) =>
   bif (!r2) then
    K0 (6 : Int) a0 r3 r4 r5 r6 r7
   else
    bif (leB (2 : Int) (List.length r1)) then
     f159 m (List.take 2 r1) (fun (r10 : Int) =>
      let x11 : Int := IntKind.wrap .i64 r10
      bif (leB (2 : Int) (List.length r1)) then
       f159 m (List.drop 2 r1) (fun (r14 : Int) =>
        bif (!(decide ((ibits .xor .i64 x11 (65535 : Int)) = (IntKind.wrap .i64 r14)))) then
         K0 (3 : Int) a0 r3 r4 r5 r6 r7
        else
         f158 m x11 r3 r4 r5 r6 r7 (fun (r17 : List UInt8) (r18 : Bool) (r19 : List UInt8) (r20 : Int) (r21 : Int) (r22 : Int) (r23 : Int) =>
          bif (!r18) then
           f160 m (some (r19, (r20, (r21, (r22, r23))))) (fun (r25 : Int) =>
            f158 m (IntKind.wrap .i64 (Int.tdiv r25 (8 : Int))) r19 r20 r21 r22 r23 (fun (r27 : List UInt8) (r28 : Bool) (r29 : List UInt8) (r30 : Int) (r31 : Int) (r32 : Int) (r33 : Int) =>
             call (.s1 r18 r27 a0 r29 r30 r31 r32 r33)))
          else
           call (.s1 r18 r17 a0 r19 r20 r21 r22 r23)))
      else
       none)
    else
     none)
  | .s1 a0 a1 a2 a3 a4 a5 a6 a7 => 
  bif (decide ((IntKind.wrap .i64 (a2 - (0 : Int))) < (((List.length a1) : Nat) : Int))) then
   K0 (2 : Int) a2 a3 a4 a5 a6 a7
  else
   bif ((decide ((List.length (List.map (fun (b : UInt8) => ((UInt8.toNat b : Nat) : Int)) a1)) ≤ LIM)) && (decide (((List.length (List.map (fun (b : UInt8) => ((UInt8.toNat b : Nat) : Int)) a1)) * 1) ≤ LIM))) then
    let x2 : List Int := List.map (fun (b : UInt8) => ((UInt8.toNat b : Nat) : Int)) a1
    bif (!a0) then
     K1 (6 : Int) a2 a3 a4 a5 a6 a7 x2
    else
     K1 (0 : Int) a2 a3 a4 a5 a6 a7 x2
   else
    none
noncomputable def f138 (m : Nat) (a0 : Int) (a1 : List UInt8) (a2 : Int) (a3 : Int) (a4 : Int) (a5 : Int) (K0 : Int → Int → List UInt8 → Int → Int → Int → Int → Option R) (K1 : Int → Int → List UInt8 → Int → Int → Int → Int → List Int → Option R) : Option R := iter (f138.step m K0 K1) m (.s0 a0 a1 a2 a3 a4 a5)
noncomputable def f138.pc (m : Nat) (other : Con R) : Con R := pcon [.p (.ptr 0 0)] [.box [.ptr 1 0, .nils, .dat (.int .i64)] 144, .box [.dat .str, .dat (.int .i64), .dat (.int .u64), .dat (.int .i64), .dat (.int .i64)] 180] (fun x y K => f138 m (y.1.2.2.1) (y.2.1.1) (y.2.1.2.1) (y.2.1.2.2.1) (y.2.1.2.2.2.1) (y.2.1.2.2.2.2.1) (fun r0 r1 r2 r3 r4 r5 r6 => K (.pv (.int .i64) r0) [.box [.ptr 1 0, .nils, .pv (.int .i64) r1] 144, .box [.pv .str r2, .pv (.int .i64) r3, .pv (.int .u64) r4, .pv (.int .i64) r5, .pv (.int .i64) r6] 180]) (fun r0 r1 r2 r3 r4 r5 r6 r7 => K (.pv (.int .i64) r0) [.box [.ptr 1 0, .sl 2 none, .pv (.int .i64) r1] 144, .box [.pv .str r2, .pv (.int .i64) r3, .pv (.int .u64) r4, .pv (.int .i64) r5, .pv (.int .i64) r6] 180, .row (.int .u8) r7 5 true])) other
noncomputable def f138.ct (m : Nat) (f : Nat) : Option (List Mode × Con R) := match f with
  | 158 => some ([.own, .bor], (f158.pc m ncon))
  | 159 => some ([.bor], (f159.pc m ncon))
  | 160 => some ([.bor], (f160.pc m ncon))
  | _ => none
theorem f138.seg (m : Nat) : Seg (f138.ct (R := R) m) f138.C 2 Tryz.f138 (some [some (.int .i64)]) f138.todo f138.fr f138.hp (fun K => f138.step m (fun r0 r1 r2 r3 r4 r5 r6 => K (.pv (.int .i64) r0) [.box [.ptr 1 0, .nils, .pv (.int .i64) r1] 144, .box [.pv .str r2, .pv (.int .i64) r3, .pv (.int .u64) r4, .pv (.int .i64) r5, .pv (.int .i64) r6] 180]) (fun r0 r1 r2 r3 r4 r5 r6 r7 => K (.pv (.int .i64) r0) [.box [.ptr 1 0, .sl 2 none, .pv (.int .i64) r1] 144, .box [.pv .str r2, .pv (.int .i64) r3, .pv (.int .u64) r4, .pv (.int .i64) r5, .pv (.int .i64) r6] 180, .row (.int .u8) r7 5 true])) := fun K call s => by cases s <;> kernel_rfl
theorem pl158 : Plain Tryz.prog 158 := ⟨Tryz.f158, by kernel_rfl, by kernel_rfl, by kernel_rfl⟩
theorem pl159 : Plain Tryz.prog 159 := ⟨Tryz.f159, by kernel_rfl, by kernel_rfl, by kernel_rfl⟩
theorem pl160 : Plain Tryz.prog 160 := ⟨Tryz.f160, by kernel_rfl, by kernel_rfl, by kernel_rfl⟩
theorem f138.ctok (hl : Laid G H0) (m : Nat) : CtOk G H0 (f138.ct (R := R) m) := by
  intro f ms F h
  unfold f138.ct at h
  split at h
  · exact ctk h pl158 (f158.ok hl m (ncon_ok _))
  · exact ctk h pl159 (f159.ok hl m (ncon_ok _))
  · exact ctk h pl160 (f160.ok hl m (ncon_ok _))
  · cases h
theorem f138.ok (hl : Laid G H0) (m : Nat) {other : Con R} (ho : FOk Tryz.prog G H0 138 other) : FOk Tryz.prog G H0 138 (f138.pc m other) :=
  seg_ok (c := bodyOf Tryz.f138) (by kernel_rfl) (by kernel_rfl) ho (f138.ctok hl m) m (f138.seg m) (fun x y => .s0 (y.1.2.2.1) (y.2.1.1) (y.2.1.2.1) (y.2.1.2.2.1) (y.2.1.2.2.2.1) (y.2.1.2.2.2.2.1)) (fun x y K => by kernel_rfl) fun _ _ _ => rfl

noncomputable def f138v2.C : Cuts := ⟨(fun q => match q with
  | 10 => some { live := [0, 4, 6], adopt := [] }
  | _ => none), (fun _ => none)⟩
inductive f138v2.St where
  | s0 (a0 : Int) (a1 : List UInt8) (a2 : Int) (a3 : Int) (a4 : Int) (a5 : Int) (a6 : List Int)
  | s1 (a0 : Bool) (a1 : List UInt8) (a2 : Int) (a3 : List UInt8) (a4 : Int) (a5 : Int) (a6 : Int) (a7 : Int) (a8 : List Int)
noncomputable def f138v2.todo : f138v2.St → List Item
  | .s0 _ _ _ _ _ _ _ => [.code (bodyOf Tryz.f138)]
  | .s1 _ _ _ _ _ _ _ _ _ => atBef Tryz.f138 10
noncomputable def f138v2.fr : f138v2.St → List SV
  | .s0 a0 a1 a2 a3 a4 a5 a6 => .ptr 0 0 :: ud 76 []
  | .s1 a0 a1 a2 a3 a4 a5 a6 a7 a8 => .ptr 0 0 :: dd 3 (.pv .bool a0 :: .dead :: .pv .str a1 :: dd 70 [])
noncomputable def f138v2.hp : f138v2.St → List Blk
  | .s0 a0 a1 a2 a3 a4 a5 a6 => [.box [.ptr 1 0, .sl 2 none, .pv (.int .i64) a0] 144, .box [.pv .str a1, .pv (.int .i64) a2, .pv (.int .u64) a3, .pv (.int .i64) a4, .pv (.int .i64) a5] 180, .row (.int .u8) a6 5 true]
  | .s1 a0 a1 a2 a3 a4 a5 a6 a7 a8 => [.box [.ptr 1 0, .sl 2 none, .pv (.int .i64) a2] 144, .box [.pv .str a3, .pv (.int .i64) a4, .pv (.int .u64) a5, .pv (.int .i64) a6, .pv (.int .i64) a7] 180, .row (.int .u8) a8 5 true]
noncomputable def f138v2.step (m : Nat) (K0 : Int → Int → List UInt8 → Int → Int → Int → Int → List Int → Option R) (K1 : Int → Int → List UInt8 → Int → Int → Int → Int → List Int → Option R) (call : f138v2.St → Option R) : f138v2.St → Option R
  | .s0 a0 a1 a2 a3 a4 a5 a6 => 
  f158 m (4 : Int) a1 a2 a3 a4 a5 (fun (r1 : List UInt8) (r2 : Bool) (r3 : List UInt8) (r4 : Int) (r5 : Int) (r6 : Int) (r7 : Int) =>
   bif (!r2) then
    K0 (6 : Int) a0 r3 r4 r5 r6 r7 a6
   else
    bif (leB (2 : Int) (List.length r1)) then
     f159 m (List.take 2 r1) (fun (r10 : Int) =>
      let x11 : Int := IntKind.wrap .i64 r10
      bif (leB (2 : Int) (List.length r1)) then
       f159 m (List.drop 2 r1) (fun (r14 : Int) =>
        bif (!(decide ((ibits .xor .i64 x11 (65535 : Int)) = (IntKind.wrap .i64 r14)))) then
         K0 (3 : Int) a0 r3 r4 r5 r6 r7 a6
        else
         f158 m x11 r3 r4 r5 r6 r7 (fun (r17 : List UInt8) (r18 : Bool) (r19 : List UInt8) (r20 : Int) (r21 : Int) (r22 : Int) (r23 : Int) =>
          bif (!r18) then
           f160 m (some (r19, (r20, (r21, (r22, r23))))) (fun (r25 : Int) =>
            f158 m (IntKind.wrap .i64 (Int.tdiv r25 (8 : Int))) r19 r20 r21 r22 r23 (fun (r27 : List UInt8) (r28 : Bool) (r29 : List UInt8) (r30 : Int) (r31 : Int) (r32 : Int) (r33 : Int) =>
             call (.s1 r18 r27 a0 r29 r30 r31 r32 r33 a6)))
          else
           call (.s1 r18 r17 a0 r19 r20 r21 r22 r23 a6)))
      else
       none)
    else
     none)
  | .s1 a0 a1 a2 a3 a4 a5 a6 a7 a8 => 
  bif (decide ((IntKind.wrap .i64 (a2 - (((List.length a8) : Nat) : Int))) < (((List.length a1) : Nat) : Int))) then
   K0 (2 : Int) a2 a3 a4 a5 a6 a7 a8
  else
   bif ((decide (((List.length a8) + (List.length (List.map (fun (b : UInt8) => ((UInt8.toNat b : Nat) : Int)) a1))) ≤ LIM)) && (decide ((((List.length a8) + (List.length (List.map (fun (b : UInt8) => ((UInt8.toNat b : Nat) : Int)) a1))) * 1) ≤ LIM))) then
    let x2 : List Int := a8 ++ (List.map (fun (b : UInt8) => ((UInt8.toNat b : Nat) : Int)) a1)
    bif (!a0) then
     K1 (6 : Int) a2 a3 a4 a5 a6 a7 x2
    else
     K1 (0 : Int) a2 a3 a4 a5 a6 a7 x2
   else
    none
noncomputable def f138v2 (m : Nat) (a0 : Int) (a1 : List UInt8) (a2 : Int) (a3 : Int) (a4 : Int) (a5 : Int) (a6 : List Int) (K0 : Int → Int → List UInt8 → Int → Int → Int → Int → List Int → Option R) (K1 : Int → Int → List UInt8 → Int → Int → Int → Int → List Int → Option R) : Option R := iter (f138v2.step m K0 K1) m (.s0 a0 a1 a2 a3 a4 a5 a6)
noncomputable def f138v2.pc (m : Nat) (other : Con R) : Con R := pcon [.p (.ptr 0 0)] [.box [.ptr 1 0, .sl 2, .dat (.int .i64)] 144, .box [.dat .str, .dat (.int .i64), .dat (.int .u64), .dat (.int .i64), .dat (.int .i64)] 180, .row (.int .u8) 5 true] (fun x y K => f138v2 m (y.1.2.2.1) (y.2.1.1) (y.2.1.2.1) (y.2.1.2.2.1) (y.2.1.2.2.2.1) (y.2.1.2.2.2.2.1) (y.2.2.1) (fun r0 r1 r2 r3 r4 r5 r6 r7 => K (.pv (.int .i64) r0) [.box [.ptr 1 0, .sl 2 none, .pv (.int .i64) r1] 144, .box [.pv .str r2, .pv (.int .i64) r3, .pv (.int .u64) r4, .pv (.int .i64) r5, .pv (.int .i64) r6] 180, .row (.int .u8) r7 5 true]) (fun r0 r1 r2 r3 r4 r5 r6 r7 => K (.pv (.int .i64) r0) [.box [.ptr 1 0, .sl 3 none, .pv (.int .i64) r1] 144, .box [.pv .str r2, .pv (.int .i64) r3, .pv (.int .u64) r4, .pv (.int .i64) r5, .pv (.int .i64) r6] 180, .dead, .row (.int .u8) r7 5 true])) other
noncomputable def f138v2.ct (m : Nat) (f : Nat) : Option (List Mode × Con R) := match f with
  | 158 => some ([.own, .bor], (f158.pc m ncon))
  | 159 => some ([.bor], (f159.pc m ncon))
  | 160 => some ([.bor], (f160.pc m ncon))
  | _ => none
theorem f138v2.seg (m : Nat) : Seg (f138v2.ct (R := R) m) f138v2.C 3 Tryz.f138 (some [some (.int .i64)]) f138v2.todo f138v2.fr f138v2.hp (fun K => f138v2.step m (fun r0 r1 r2 r3 r4 r5 r6 r7 => K (.pv (.int .i64) r0) [.box [.ptr 1 0, .sl 2 none, .pv (.int .i64) r1] 144, .box [.pv .str r2, .pv (.int .i64) r3, .pv (.int .u64) r4, .pv (.int .i64) r5, .pv (.int .i64) r6] 180, .row (.int .u8) r7 5 true]) (fun r0 r1 r2 r3 r4 r5 r6 r7 => K (.pv (.int .i64) r0) [.box [.ptr 1 0, .sl 3 none, .pv (.int .i64) r1] 144, .box [.pv .str r2, .pv (.int .i64) r3, .pv (.int .u64) r4, .pv (.int .i64) r5, .pv (.int .i64) r6] 180, .dead, .row (.int .u8) r7 5 true])) := fun K call s => by cases s <;> kernel_rfl
theorem f138v2.ctok (hl : Laid G H0) (m : Nat) : CtOk G H0 (f138v2.ct (R := R) m) := by
  intro f ms F h
  unfold f138v2.ct at h
  split at h
  · exact ctk h pl158 (f158.ok hl m (ncon_ok _))
  · exact ctk h pl159 (f159.ok hl m (ncon_ok _))
  · exact ctk h pl160 (f160.ok hl m (ncon_ok _))
  · cases h
theorem f138v2.ok (hl : Laid G H0) (m : Nat) {other : Con R} (ho : FOk Tryz.prog G H0 138 other) : FOk Tryz.prog G H0 138 (f138v2.pc m other) :=
  seg_ok (c := bodyOf Tryz.f138) (by kernel_rfl) (by kernel_rfl) ho (f138v2.ctok hl m) m (f138v2.seg m) (fun x y => .s0 (y.1.2.2.1) (y.2.1.1) (y.2.1.2.1) (y.2.1.2.2.1) (y.2.1.2.2.2.1) (y.2.1.2.2.2.2.1) (y.2.2.1)) (fun x y K => by kernel_rfl) fun _ _ _ => rfl

noncomputable def f140.C : Cuts := ⟨(fun q => match q with
  | 5 => some { live := [0, 1, 6, 7, 8, 9], adopt := [] }
  | 17 => some { live := [], adopt := [] }
  | _ => none), (fun _ => none)⟩
inductive f140.St where
  | s0 (a0 : Option ((List Int × (List Int × List Int)))) (a1 : List UInt8) (a2 : Int) (a3 : Int) (a4 : Int) (a5 : Int)
  | s1 (a0 : Option ((List Int × (List Int × List Int)))) (a1 : Int) (a2 : Int) (a3 : Int) (a4 : Int) (a5 : List UInt8) (a6 : Int) (a7 : Int) (a8 : Int) (a9 : Int)
  | s2 (a0 : List UInt8) (a1 : Int) (a2 : Int) (a3 : Int) (a4 : Int)
noncomputable def f140.todo : f140.St → List Item
  | .s0 _ _ _ _ _ _ => [.code (bodyOf Tryz.f140)]
  | .s1 _ _ _ _ _ _ _ _ _ _ => atBef Tryz.f140 5
  | .s2 _ _ _ _ _ => atBef Tryz.f140 17
noncomputable def f140.fr : f140.St → List SV
  | .s0 a0 a1 a2 a3 a4 a5 => .pv (.ptr (.prod (.sl (.int .i64)) (.prod (.arr 16 (.int .i64)) (.sl (.int .i64))))) a0 :: .ptr 0 0 :: ud 77 []
  | .s1 a0 a1 a2 a3 a4 a5 a6 a7 a8 a9 => .pv (.ptr (.prod (.sl (.int .i64)) (.prod (.arr 16 (.int .i64)) (.sl (.int .i64))))) a0 :: .ptr 0 0 :: dd 4 (.pv (.int .i64) a1 :: .pv (.int .i64) a2 :: .pv (.int .i64) a3 :: .pv (.int .i64) a4 :: dd 69 [])
  | .s2 a0 a1 a2 a3 a4 => dd 79 []
noncomputable def f140.hp : f140.St → List Blk
  | .s0 a0 a1 a2 a3 a4 a5 => [.box [.pv .str a1, .pv (.int .i64) a2, .pv (.int .u64) a3, .pv (.int .i64) a4, .pv (.int .i64) a5] 180]
  | .s1 a0 a1 a2 a3 a4 a5 a6 a7 a8 a9 => [.box [.pv .str a5, .pv (.int .i64) a6, .pv (.int .u64) a7, .pv (.int .i64) a8, .pv (.int .i64) a9] 180]
  | .s2 a0 a1 a2 a3 a4 => [.box [.pv .str a0, .pv (.int .i64) a1, .pv (.int .u64) a2, .pv (.int .i64) a3, .pv (.int .i64) a4] 180]
noncomputable def f140.step (m : Nat) (K0 : Int → Int → List UInt8 → Int → Int → Int → Int → Option R) (call : f140.St → Option R) : f140.St → Option R
  | .s0 a0 a1 a2 a3 a4 a5 => 
  deref a0 fun (p1 : (List Int × (List Int × List Int))) =>
  bif (decide ((((List.length p1.2.2) : Nat) : Int) = (0 : Int))) then
   K0 (0 : Int) (3 : Int) a1 a2 a3 a4 a5
  else
   call (.s1 a0 (0 : Int) (0 : Int) (0 : Int) (1 : Int) a1 a2 a3 a4 a5)
  | .s1 a0 a1 a2 a3 a4 a5 a6 a7 a8 a9 => 
  bif (decide (a4 ≤ (15 : Int))) then
   f137 m (1 : Int) a5 a6 a7 a8 a9 (fun (r1 : Int) (r2 : Bool) (r3 : List UInt8) (r4 : Int) (r5 : Int) (r6 : Int) (r7 : Int) =>
    bif (!r2) then
     K0 (0 : Int) (6 : Int) r3 r4 r5 r6 r7
    else
     let x11 : Int := ibits .or .i64 (IntKind.wrap .i64 (a1 * (2 : Int))) (IntKind.wrap .i64 r1)
     let x12 : Int := IntKind.wrap .i64 (x11 - a2)
     deref a0 fun (p13 : (List Int × (List Int × List Int))) =>
     bif (inB a4 16) then
      bif (decide (x12 < (List.getD p13.2.1 (Int.toNat a4) (0 : Int)))) then
       deref a0 fun (p15 : (List Int × (List Int × List Int))) =>
       let x16 : Int := IntKind.wrap .i64 (a3 + x12)
       bif (inB x16 (List.length p15.2.2)) then
        K0 (List.getD p15.2.2 (Int.toNat x16) (0 : Int)) (0 : Int) r3 r4 r5 r6 r7
       else
        none
      else
       deref a0 fun (p18 : (List Int × (List Int × List Int))) =>
       bif (inB a4 16) then
        let x20 : Int := IntKind.wrap .i64 (a3 + (List.getD p18.2.1 (Int.toNat a4) (0 : Int)))
        deref a0 fun (p21 : (List Int × (List Int × List Int))) =>
        bif (inB a4 16) then
         deref a0 fun (p25 : (List Int × (List Int × List Int))) =>
         bif (decide (x20 = (((List.length p25.2.2) : Nat) : Int))) then
          call (.s2 r3 r4 r5 r6 r7)
         else
          call (.s1 a0 x11 (IntKind.wrap .i64 ((IntKind.wrap .i64 (a2 + (List.getD p21.2.1 (Int.toNat a4) (0 : Int)))) * (2 : Int))) x20 (IntKind.wrap .i64 (a4 + (1 : Int))) r3 r4 r5 r6 r7)
        else
         none
       else
        none
     else
      none)
  else
   call (.s2 a5 a6 a7 a8 a9)
  | .s2 a0 a1 a2 a3 a4 => 
  K0 (0 : Int) (3 : Int) a0 a1 a2 a3 a4
noncomputable def f140 (m : Nat) (a0 : Option ((List Int × (List Int × List Int)))) (a1 : List UInt8) (a2 : Int) (a3 : Int) (a4 : Int) (a5 : Int) (K0 : Int → Int → List UInt8 → Int → Int → Int → Int → Option R) : Option R := iter (f140.step m K0) m (.s0 a0 a1 a2 a3 a4 a5)
noncomputable def f140.pc (m : Nat) (other : Con R) : Con R := pcon [.p (.dat (.ptr (.prod (.sl (.int .i64)) (.prod (.arr 16 (.int .i64)) (.sl (.int .i64)))))), .p (.ptr 0 0)] [.box [.dat .str, .dat (.int .i64), .dat (.int .u64), .dat (.int .i64), .dat (.int .i64)] 180] (fun x y K => f140 m (x.1) (y.1.1) (y.1.2.1) (y.1.2.2.1) (y.1.2.2.2.1) (y.1.2.2.2.2.1) (fun r0 r1 r2 r3 r4 r5 r6 => K (.tup [.pv (.int .i64) r0, .pv (.int .i64) r1]) [.box [.pv .str r2, .pv (.int .i64) r3, .pv (.int .u64) r4, .pv (.int .i64) r5, .pv (.int .i64) r6] 180])) other
noncomputable def f140.ct (m : Nat) (f : Nat) : Option (List Mode × Con R) := match f with
  | 137 => some ([.own, .bor], (f137.pc m ncon))
  | _ => none
theorem f140.seg (m : Nat) : Seg (f140.ct (R := R) m) f140.C 1 Tryz.f140 (some [some (.int .i64), some (.int .i64)]) f140.todo f140.fr f140.hp (fun K => f140.step m (fun r0 r1 r2 r3 r4 r5 r6 => K (.tup [.pv (.int .i64) r0, .pv (.int .i64) r1]) [.box [.pv .str r2, .pv (.int .i64) r3, .pv (.int .u64) r4, .pv (.int .i64) r5, .pv (.int .i64) r6] 180])) := fun K call s => by cases s <;> kernel_rfl
theorem pl137 : Plain Tryz.prog 137 := ⟨Tryz.f137, by kernel_rfl, by kernel_rfl, by kernel_rfl⟩
theorem f140.ctok (hl : Laid G H0) (m : Nat) : CtOk G H0 (f140.ct (R := R) m) := by
  intro f ms F h
  unfold f140.ct at h
  split at h
  · exact ctk h pl137 (f137.ok hl m (ncon_ok _))
  · cases h
theorem f140.ok (hl : Laid G H0) (m : Nat) {other : Con R} (ho : FOk Tryz.prog G H0 140 other) : FOk Tryz.prog G H0 140 (f140.pc m other) :=
  seg_ok (c := bodyOf Tryz.f140) (by kernel_rfl) (by kernel_rfl) ho (f140.ctok hl m) m (f140.seg m) (fun x y => .s0 (x.1) (y.1.1) (y.1.2.1) (y.1.2.2.1) (y.1.2.2.2.1) (y.1.2.2.2.2.1)) (fun x y K => by kernel_rfl) fun _ _ _ => rfl

noncomputable def f141.C : Cuts := ⟨(fun q => match q with
  | _ => none), (fun _ => none)⟩
inductive f141.St where
  | s0 (a0 : Int) (a1 : Int) (a2 : List UInt8) (a3 : Int) (a4 : Int) (a5 : Int) (a6 : Int) (a7 : List Int)
noncomputable def f141.todo : f141.St → List Item
  | .s0 _ _ _ _ _ _ _ _ => [.code (bodyOf Tryz.f141)]
noncomputable def f141.fr : f141.St → List SV
  | .s0 a0 a1 a2 a3 a4 a5 a6 a7 => .ptr 0 0 :: .pv (.int .u8) a0 :: ud 23 []
noncomputable def f141.hp : f141.St → List Blk
  | .s0 a0 a1 a2 a3 a4 a5 a6 a7 => [.box [.ptr 1 0, .sl 2 none, .pv (.int .i64) a1] 144, .box [.pv .str a2, .pv (.int .i64) a3, .pv (.int .u64) a4, .pv (.int .i64) a5, .pv (.int .i64) a6] 180, .row (.int .u8) a7 5 true]
noncomputable def f141.step (m : Nat) (K0 : Int → Int → List UInt8 → Int → Int → Int → Int → List Int → Option R) (K1 : Int → Int → List UInt8 → Int → Int → Int → Int → List Int → Option R) (call : f141.St → Option R) : f141.St → Option R
  | .s0 a0 a1 a2 a3 a4 a5 a6 a7 => 
  bif (decide ((((List.length a7) : Nat) : Int) = a1)) then
   K0 (2 : Int) a1 a2 a3 a4 a5 a6 a7
  else
   let x1 : List Int := [a0]
   bif ((decide (((List.length a7) + (List.length x1)) ≤ LIM)) && (decide ((((List.length a7) + (List.length x1)) * 1) ≤ LIM))) then
    K1 (0 : Int) a1 a2 a3 a4 a5 a6 (a7 ++ x1)
   else
    none
noncomputable def f141 (m : Nat) (a0 : Int) (a1 : Int) (a2 : List UInt8) (a3 : Int) (a4 : Int) (a5 : Int) (a6 : Int) (a7 : List Int) (K0 : Int → Int → List UInt8 → Int → Int → Int → Int → List Int → Option R) (K1 : Int → Int → List UInt8 → Int → Int → Int → Int → List Int → Option R) : Option R := iter (f141.step m K0 K1) m (.s0 a0 a1 a2 a3 a4 a5 a6 a7)
noncomputable def f141.pc (m : Nat) (other : Con R) : Con R := pcon [.p (.ptr 0 0), .p (.dat (.int .u8))] [.box [.ptr 1 0, .sl 2, .dat (.int .i64)] 144, .box [.dat .str, .dat (.int .i64), .dat (.int .u64), .dat (.int .i64), .dat (.int .i64)] 180, .row (.int .u8) 5 true] (fun x y K => f141 m (x.2.1) (y.1.2.2.1) (y.2.1.1) (y.2.1.2.1) (y.2.1.2.2.1) (y.2.1.2.2.2.1) (y.2.1.2.2.2.2.1) (y.2.2.1) (fun r0 r1 r2 r3 r4 r5 r6 r7 => K (.pv (.int .i64) r0) [.box [.ptr 1 0, .sl 2 none, .pv (.int .i64) r1] 144, .box [.pv .str r2, .pv (.int .i64) r3, .pv (.int .u64) r4, .pv (.int .i64) r5, .pv (.int .i64) r6] 180, .row (.int .u8) r7 5 true]) (fun r0 r1 r2 r3 r4 r5 r6 r7 => K (.pv (.int .i64) r0) [.box [.ptr 1 0, .sl 3 none, .pv (.int .i64) r1] 144, .box [.pv .str r2, .pv (.int .i64) r3, .pv (.int .u64) r4, .pv (.int .i64) r5, .pv (.int .i64) r6] 180, .dead, .row (.int .u8) r7 5 true])) other
noncomputable def f141.ct (m : Nat) (f : Nat) : Option (List Mode × Con R) := match f with
  | _ => none
theorem f141.seg (m : Nat) : Seg (f141.ct (R := R) m) f141.C 3 Tryz.f141 (some [some (.int .i64)]) f141.todo f141.fr f141.hp (fun K => f141.step m (fun r0 r1 r2 r3 r4 r5 r6 r7 => K (.pv (.int .i64) r0) [.box [.ptr 1 0, .sl 2 none, .pv (.int .i64) r1] 144, .box [.pv .str r2, .pv (.int .i64) r3, .pv (.int .u64) r4, .pv (.int .i64) r5, .pv (.int .i64) r6] 180, .row (.int .u8) r7 5 true]) (fun r0 r1 r2 r3 r4 r5 r6 r7 => K (.pv (.int .i64) r0) [.box [.ptr 1 0, .sl 3 none, .pv (.int .i64) r1] 144, .box [.pv .str r2, .pv (.int .i64) r3, .pv (.int .u64) r4, .pv (.int .i64) r5, .pv (.int .i64) r6] 180, .dead, .row (.int .u8) r7 5 true])) := fun K call s => by cases s <;> kernel_rfl
theorem f141.ctok (hl : Laid G H0) (m : Nat) : CtOk G H0 (f141.ct (R := R) m) := fun f ms F h => nomatch h
theorem f141.ok (hl : Laid G H0) (m : Nat) {other : Con R} (ho : FOk Tryz.prog G H0 141 other) : FOk Tryz.prog G H0 141 (f141.pc m other) :=
  seg_ok (c := bodyOf Tryz.f141) (by kernel_rfl) (by kernel_rfl) ho (f141.ctok hl m) m (f141.seg m) (fun x y => .s0 (x.2.1) (y.1.2.2.1) (y.2.1.1) (y.2.1.2.1) (y.2.1.2.2.1) (y.2.1.2.2.2.1) (y.2.1.2.2.2.2.1) (y.2.2.1)) (fun x y K => by kernel_rfl) fun _ _ _ => rfl

noncomputable def f142.C : Cuts := ⟨(fun q => match q with
  | 21 => some { live := [0, 13, 79, 80], adopt := [] }
  | _ => none), (fun _ => none)⟩
inductive f142.St where
  | s0 (a0 : Int) (a1 : Option ((List Int × (List Int × List Int)))) (a2 : Int) (a3 : List UInt8) (a4 : Int) (a5 : Int) (a6 : Int) (a7 : Int) (a8 : List Int)
  | s1 (a0 : Int) (a1 : Int) (a2 : Int) (a3 : Int) (a4 : List UInt8) (a5 : Int) (a6 : Int) (a7 : Int) (a8 : Int) (a9 : List Int)
  | s2 (a0 : Int) (a1 : Int) (a2 : Int) (a3 : Int) (a4 : List UInt8) (a5 : Int) (a6 : Int) (a7 : Int) (a8 : Int) (a9 : List Int)
noncomputable def f142.todo : f142.St → List Item
  | .s0 _ _ _ _ _ _ _ _ _ => [.code (bodyOf Tryz.f142)]
  | .s1 _ _ _ _ _ _ _ _ _ _ => atBef Tryz.f142 21
  | .s2 _ _ _ _ _ _ _ _ _ _ => atBef Tryz.f142 21
noncomputable def f142.fr : f142.St → List SV
  | .s0 a0 a1 a2 a3 a4 a5 a6 a7 a8 => .ptr 0 0 :: .pv (.int .i64) a0 :: .pv (.ptr (.prod (.sl (.int .i64)) (.prod (.arr 16 (.int .i64)) (.sl (.int .i64))))) a1 :: ud 98 []
  | .s1 a0 a1 a2 a3 a4 a5 a6 a7 a8 a9 => .ptr 0 0 :: dd 12 (.pv (.int .i64) a0 :: dd 65 (.pv (.int .i64) a1 :: .pv (.int .i64) a2 :: dd 20 []))
  | .s2 a0 a1 a2 a3 a4 a5 a6 a7 a8 a9 => .ptr 0 0 :: dd 12 (.pv (.int .i64) a0 :: dd 65 (.pv (.int .i64) a1 :: .pv (.int .i64) a2 :: dd 20 []))
noncomputable def f142.hp : f142.St → List Blk
  | .s0 a0 a1 a2 a3 a4 a5 a6 a7 a8 => [.box [.ptr 1 0, .sl 2 none, .pv (.int .i64) a2] 144, .box [.pv .str a3, .pv (.int .i64) a4, .pv (.int .u64) a5, .pv (.int .i64) a6, .pv (.int .i64) a7] 180, .row (.int .u8) a8 5 true]
  | .s1 a0 a1 a2 a3 a4 a5 a6 a7 a8 a9 => [.box [.ptr 1 0, .sl 2 none, .pv (.int .i64) a3] 144, .box [.pv .str a4, .pv (.int .i64) a5, .pv (.int .u64) a6, .pv (.int .i64) a7, .pv (.int .i64) a8] 180, .row (.int .u8) a9 5 true]
  | .s2 a0 a1 a2 a3 a4 a5 a6 a7 a8 a9 => [.box [.ptr 1 0, .sl 3 none, .pv (.int .i64) a3] 144, .box [.pv .str a4, .pv (.int .i64) a5, .pv (.int .u64) a6, .pv (.int .i64) a7, .pv (.int .i64) a8] 180, .dead, .row (.int .u8) a9 5 true]
noncomputable def f142.step (m : Nat) (K0 : Int → Int → List UInt8 → Int → Int → Int → Int → List Int → Option R) (K1 : Int → Int → List UInt8 → Int → Int → Int → Int → List Int → Option R) (call : f142.St → Option R) : f142.St → Option R
  | .s0 a0 a1 a2 a3 a4 a5 a6 a7 a8 => 
  bif (decide ((285 : Int) < a0)) then
   K0 (3 : Int) a2 a3 a4 a5 a6 a7 a8
  else
   f86 m (IntKind.wrap .i64 (a0 - (257 : Int))) (fun (r2 : Int) (r3 : Int) =>
    f137 m r3 a3 a4 a5 a6 a7 (fun (r4 : Int) (r5 : Bool) (r6 : List UInt8) (r7 : Int) (r8 : Int) (r9 : Int) (r10 : Int) =>
     bif (!r5) then
      K0 (6 : Int) a2 r6 r7 r8 r9 r10 a8
     else
      f140 m a1 r6 r7 r8 r9 r10 (fun (r14 : Int) (r15 : Int) (r16 : List UInt8) (r17 : Int) (r18 : Int) (r19 : Int) (r20 : Int) =>
       bif (!(decide (r15 = (0 : Int)))) then
        K0 r15 a2 r16 r17 r18 r19 r20 a8
       else
        bif (decide ((29 : Int) < r14)) then
         K0 (3 : Int) a2 r16 r17 r18 r19 r20 a8
        else
         f87 m r14 (fun (r22 : Int) (r23 : Int) =>
          f137 m r23 r16 r17 r18 r19 r20 (fun (r24 : Int) (r25 : Bool) (r26 : List UInt8) (r27 : Int) (r28 : Int) (r29 : Int) (r30 : Int) =>
           bif (!r25) then
            K0 (6 : Int) a2 r26 r27 r28 r29 r30 a8
           else
            let x33 : Int := IntKind.wrap .i64 (r22 + (IntKind.wrap .i64 r24))
            bif (decide ((((List.length a8) : Nat) : Int) < x33)) then
             K0 (3 : Int) a2 r26 r27 r28 r29 r30 a8
            else
             call (.s1 x33 (IntKind.wrap .i64 (r2 + (IntKind.wrap .i64 r4))) (0 : Int) a2 r26 r27 r28 r29 r30 a8))))))
  | .s1 a0 a1 a2 a3 a4 a5 a6 a7 a8 a9 => 
  bif (decide (a2 < a1)) then
   let x1 : Int := IntKind.wrap .i64 ((((List.length a9) : Nat) : Int) - a0)
   bif (inB x1 (List.length a9)) then
    f141 m (List.getD a9 (Int.toNat x1) (0 : Int)) a3 a4 a5 a6 a7 a8 a9 (fun (r4 : Int) (r5 : Int) (r6 : List UInt8) (r7 : Int) (r8 : Int) (r9 : Int) (r10 : Int) (r11 : List Int) =>
     bif (!(decide (r4 = (0 : Int)))) then
      K0 r4 r5 r6 r7 r8 r9 r10 r11
     else
      call (.s1 a0 a1 (IntKind.wrap .i64 (a2 + (1 : Int))) r5 r6 r7 r8 r9 r10 r11)) (fun (r14 : Int) (r15 : Int) (r16 : List UInt8) (r17 : Int) (r18 : Int) (r19 : Int) (r20 : Int) (r21 : List Int) =>
     bif (!(decide (r14 = (0 : Int)))) then
      K1 r14 r15 r16 r17 r18 r19 r20 r21
     else
      call (.s2 a0 a1 (IntKind.wrap .i64 (a2 + (1 : Int))) r15 r16 r17 r18 r19 r20 r21))
   else
    none
  else
   K0 (0 : Int) a3 a4 a5 a6 a7 a8 a9
  | .s2 a0 a1 a2 a3 a4 a5 a6 a7 a8 a9 => 
  bif (decide (a2 < a1)) then
   let x1 : Int := IntKind.wrap .i64 ((((List.length a9) : Nat) : Int) - a0)
   bif (inB x1 (List.length a9)) then
    f141 m (List.getD a9 (Int.toNat x1) (0 : Int)) a3 a4 a5 a6 a7 a8 a9 (fun (r4 : Int) (r5 : Int) (r6 : List UInt8) (r7 : Int) (r8 : Int) (r9 : Int) (r10 : Int) (r11 : List Int) =>
     bif (!(decide (r4 = (0 : Int)))) then
      K1 r4 r5 r6 r7 r8 r9 r10 r11
     else
      call (.s2 a0 a1 (IntKind.wrap .i64 (a2 + (1 : Int))) r5 r6 r7 r8 r9 r10 r11)) (fun (r14 : Int) (r15 : Int) (r16 : List UInt8) (r17 : Int) (r18 : Int) (r19 : Int) (r20 : Int) (r21 : List Int) =>
     bif (!(decide (r14 = (0 : Int)))) then
      K1 r14 r15 r16 r17 r18 r19 r20 r21
     else
      call (.s2 a0 a1 (IntKind.wrap .i64 (a2 + (1 : Int))) r15 r16 r17 r18 r19 r20 r21))
   else
    none
  else
   K1 (0 : Int) a3 a4 a5 a6 a7 a8 a9
noncomputable def f142 (m : Nat) (a0 : Int) (a1 : Option ((List Int × (List Int × List Int)))) (a2 : Int) (a3 : List UInt8) (a4 : Int) (a5 : Int) (a6 : Int) (a7 : Int) (a8 : List Int) (K0 : Int → Int → List UInt8 → Int → Int → Int → Int → List Int → Option R) (K1 : Int → Int → List UInt8 → Int → Int → Int → Int → List Int → Option R) : Option R := iter (f142.step m K0 K1) m (.s0 a0 a1 a2 a3 a4 a5 a6 a7 a8)
noncomputable def f142.pc (m : Nat) (other : Con R) : Con R := pcon [.p (.ptr 0 0), .p (.dat (.int .i64)), .p (.dat (.ptr (.prod (.sl (.int .i64)) (.prod (.arr 16 (.int .i64)) (.sl (.int .i64))))))] [.box [.ptr 1 0, .sl 2, .dat (.int .i64)] 144, .box [.dat .str, .dat (.int .i64), .dat (.int .u64), .dat (.int .i64), .dat (.int .i64)] 180, .row (.int .u8) 5 true] (fun x y K => f142 m (x.2.1) (x.2.2.1) (y.1.2.2.1) (y.2.1.1) (y.2.1.2.1) (y.2.1.2.2.1) (y.2.1.2.2.2.1) (y.2.1.2.2.2.2.1) (y.2.2.1) (fun r0 r1 r2 r3 r4 r5 r6 r7 => K (.pv (.int .i64) r0) [.box [.ptr 1 0, .sl 2 none, .pv (.int .i64) r1] 144, .box [.pv .str r2, .pv (.int .i64) r3, .pv (.int .u64) r4, .pv (.int .i64) r5, .pv (.int .i64) r6] 180, .row (.int .u8) r7 5 true]) (fun r0 r1 r2 r3 r4 r5 r6 r7 => K (.pv (.int .i64) r0) [.box [.ptr 1 0, .sl 3 none, .pv (.int .i64) r1] 144, .box [.pv .str r2, .pv (.int .i64) r3, .pv (.int .u64) r4, .pv (.int .i64) r5, .pv (.int .i64) r6] 180, .dead, .row (.int .u8) r7 5 true])) other
noncomputable def f142.ct (m : Nat) (f : Nat) : Option (List Mode × Con R) := match f with
  | 86 => some ([.bor], (f86.pc m ncon))
  | 137 => some ([.own, .bor], (f137.pc m ncon))
  | 140 => some ([.bor, .own], (f140.pc m ncon))
  | 87 => some ([.bor], (f87.pc m ncon))
  | 141 => some ([.own, .bor], (f141.pc m ncon))
  | _ => none
theorem f142.seg (m : Nat) : Seg (f142.ct (R := R) m) f142.C 3 Tryz.f142 (some [some (.int .i64)]) f142.todo f142.fr f142.hp (fun K => f142.step m (fun r0 r1 r2 r3 r4 r5 r6 r7 => K (.pv (.int .i64) r0) [.box [.ptr 1 0, .sl 2 none, .pv (.int .i64) r1] 144, .box [.pv .str r2, .pv (.int .i64) r3, .pv (.int .u64) r4, .pv (.int .i64) r5, .pv (.int .i64) r6] 180, .row (.int .u8) r7 5 true]) (fun r0 r1 r2 r3 r4 r5 r6 r7 => K (.pv (.int .i64) r0) [.box [.ptr 1 0, .sl 3 none, .pv (.int .i64) r1] 144, .box [.pv .str r2, .pv (.int .i64) r3, .pv (.int .u64) r4, .pv (.int .i64) r5, .pv (.int .i64) r6] 180, .dead, .row (.int .u8) r7 5 true])) := fun K call s => by cases s <;> kernel_rfl
theorem pl140 : Plain Tryz.prog 140 := ⟨Tryz.f140, by kernel_rfl, by kernel_rfl, by kernel_rfl⟩
theorem pl141 : Plain Tryz.prog 141 := ⟨Tryz.f141, by kernel_rfl, by kernel_rfl, by kernel_rfl⟩
theorem f142.ctok (hl : Laid G H0) (m : Nat) : CtOk G H0 (f142.ct (R := R) m) := by
  intro f ms F h
  unfold f142.ct at h
  split at h
  · exact ctk h pl86 (f86.ok hl m (ncon_ok _))
  · exact ctk h pl137 (f137.ok hl m (ncon_ok _))
  · exact ctk h pl140 (f140.ok hl m (ncon_ok _))
  · exact ctk h pl87 (f87.ok hl m (ncon_ok _))
  · exact ctk h pl141 (f141.ok hl m (ncon_ok _))
  · cases h
theorem f142.ok (hl : Laid G H0) (m : Nat) {other : Con R} (ho : FOk Tryz.prog G H0 142 other) : FOk Tryz.prog G H0 142 (f142.pc m other) :=
  seg_ok (c := bodyOf Tryz.f142) (by kernel_rfl) (by kernel_rfl) ho (f142.ctok hl m) m (f142.seg m) (fun x y => .s0 (x.2.1) (x.2.2.1) (y.1.2.2.1) (y.2.1.1) (y.2.1.2.1) (y.2.1.2.2.1) (y.2.1.2.2.2.1) (y.2.1.2.2.2.2.1) (y.2.2.1)) (fun x y K => by kernel_rfl) fun _ _ _ => rfl

end Go.AM
set_option linter.unusedVariables false
set_option maxRecDepth 100000
namespace Go.AM
open Go.Proofs
variable {R : Type} {G : Nat} {H0 : Array Obj}
noncomputable def f111.C : Cuts := ⟨(fun q => match q with
  | 6 => some { live := [0], adopt := [(0, [1], (.int .u8), 5)] }
  | 12 => some { live := [0, 3, 5], adopt := [] }
  | 21 => some { live := [0, 3, 7, 8], adopt := [] }
  | _ => none), (fun _ => none)⟩
inductive f111.St where
  | s0 (a0 : Int) (a1 : List UInt8) (a2 : Int) (a3 : Int) (a4 : Int) (a5 : Int)
  | s1 (a0 : Int) (a1 : List UInt8) (a2 : Int) (a3 : Int) (a4 : Int) (a5 : Int) (a6 : List Int)
  | s2 (a0 : Int) (a1 : Int) (a2 : Int) (a3 : List UInt8) (a4 : Int) (a5 : Int) (a6 : Int) (a7 : Int) (a8 : List Int)
  | s3 (a0 : Int) (a1 : Option ((List Int × (List Int × List Int)))) (a2 : Option ((List Int × (List Int × List Int)))) (a3 : Int) (a4 : List UInt8) (a5 : Int) (a6 : Int) (a7 : Int) (a8 : Int) (a9 : List Int)
noncomputable def f111.todo : f111.St → List Item
  | .s0 _ _ _ _ _ _ => [.code (bodyOf Tryz.f111)]
  | .s1 _ _ _ _ _ _ _ => atBef Tryz.f111 6
  | .s2 _ _ _ _ _ _ _ _ _ => atBef Tryz.f111 12
  | .s3 _ _ _ _ _ _ _ _ _ _ => atBef Tryz.f111 21
noncomputable def f111.fr : f111.St → List SV
  | .s0 a0 a1 a2 a3 a4 a5 => .ptr 0 0 :: ud 74 []
  | .s1 a0 a1 a2 a3 a4 a5 a6 => .ptr 0 0 :: dd 74 []
  | .s2 a0 a1 a2 a3 a4 a5 a6 a7 a8 => .ptr 0 0 :: .dead :: .dead :: .pv (.int .u32) a0 :: .dead :: .pv (.int .i64) a1 :: dd 69 []
  | .s3 a0 a1 a2 a3 a4 a5 a6 a7 a8 a9 => .ptr 0 0 :: .dead :: .dead :: .pv (.int .u32) a0 :: dd 3 (.pv (.ptr (.prod (.sl (.int .i64)) (.prod (.arr 16 (.int .i64)) (.sl (.int .i64))))) a1 :: .pv (.ptr (.prod (.sl (.int .i64)) (.prod (.arr 16 (.int .i64)) (.sl (.int .i64))))) a2 :: dd 66 [])
noncomputable def f111.hp : f111.St → List Blk
  | .s0 a0 a1 a2 a3 a4 a5 => [.box [.ptr 1 0, .nils, .pv (.int .i64) a0] 144, .box [.pv .str a1, .pv (.int .i64) a2, .pv (.int .u64) a3, .pv (.int .i64) a4, .pv (.int .i64) a5] 180]
  | .s1 a0 a1 a2 a3 a4 a5 a6 => [.box [.ptr 1 0, .sl 2 none, .pv (.int .i64) a0] 144, .box [.pv .str a1, .pv (.int .i64) a2, .pv (.int .u64) a3, .pv (.int .i64) a4, .pv (.int .i64) a5] 180, .row (.int .u8) a6 5 true]
  | .s2 a0 a1 a2 a3 a4 a5 a6 a7 a8 => [.box [.ptr 1 0, .sl 2 none, .pv (.int .i64) a2] 144, .box [.pv .str a3, .pv (.int .i64) a4, .pv (.int .u64) a5, .pv (.int .i64) a6, .pv (.int .i64) a7] 180, .row (.int .u8) a8 5 true]
  | .s3 a0 a1 a2 a3 a4 a5 a6 a7 a8 a9 => [.box [.ptr 1 0, .sl 2 none, .pv (.int .i64) a3] 144, .box [.pv .str a4, .pv (.int .i64) a5, .pv (.int .u64) a6, .pv (.int .i64) a7, .pv (.int .i64) a8] 180, .row (.int .u8) a9 5 true]
noncomputable def f111.step (m : Nat) (K0 : Int → Int → List UInt8 → Int → Int → Int → Int → List Int → Option R) (call : f111.St → Option R) : f111.St → Option R
  | .s0 a0 a1 a2 a3 a4 a5 => 
  call (.s1 a0 a1 a2 a3 a4 a5 ([] : List Int))
  | .s1 a0 a1 a2 a3 a4 a5 a6 => 
  f137 m (3 : Int) a1 a2 a3 a4 a5 (fun (r1 : Int) (r2 : Bool) (r3 : List UInt8) (r4 : Int) (r5 : Int) (r6 : Int) (r7 : Int) =>
   bif (!r2) then
    K0 (6 : Int) a0 r3 r4 r5 r6 r7 a6
   else
    let x9 : Int := Int.fdiv r1 (2 : Int)
    bif (decide (x9 = (0 : Int))) then
     f138v2 m a0 r3 r4 r5 r6 r7 a6 (fun (r10 : Int) (r11 : Int) (r12 : List UInt8) (r13 : Int) (r14 : Int) (r15 : Int) (r16 : Int) (r17 : List Int) =>
      call (.s2 r1 r10 r11 r12 r13 r14 r15 r16 r17)) (fun (r18 : Int) (r19 : Int) (r20 : List UInt8) (r21 : Int) (r22 : Int) (r23 : Int) (r24 : Int) (r25 : List Int) =>
      call (.s2 r1 r18 r19 r20 r21 r22 r23 r24 r25))
    else
     bif (decide (x9 = (1 : Int))) then
      f81 m (fun (r26 : Option ((List Int × (List Int × List Int)))) (r27 : Option ((List Int × (List Int × List Int)))) =>
       call (.s3 r1 r26 r27 a0 r3 r4 r5 r6 r7 a6))
     else
      bif (decide (x9 = (2 : Int))) then
       none
      else
       K0 (3 : Int) a0 r3 r4 r5 r6 r7 a6)
  | .s2 a0 a1 a2 a3 a4 a5 a6 a7 a8 => 
  bif (!(decide (a1 = (0 : Int)))) then
   K0 a1 a2 a3 a4 a5 a6 a7 a8
  else
   bif (decide ((ibits .and .u32 a0 (1 : Int)) = (0 : Int))) then
    call (.s1 a2 a3 a4 a5 a6 a7 a8)
   else
    K0 (0 : Int) a2 a3 a4 a5 a6 a7 a8
  | .s3 a0 a1 a2 a3 a4 a5 a6 a7 a8 a9 => 
  f140 m a1 a4 a5 a6 a7 a8 (fun (r1 : Int) (r2 : Int) (r3 : List UInt8) (r4 : Int) (r5 : Int) (r6 : Int) (r7 : Int) =>
   bif (!(decide (r2 = (0 : Int)))) then
    K0 r2 a3 r3 r4 r5 r6 r7 a9
   else
    bif (decide (r1 = (256 : Int))) then
     bif (decide ((ibits .and .u32 a0 (1 : Int)) = (0 : Int))) then
      call (.s1 a3 r3 r4 r5 r6 r7 a9)
     else
      K0 (0 : Int) a3 r3 r4 r5 r6 r7 a9
    else
     bif (decide (r1 < (256 : Int))) then
      f141 m (IntKind.wrap .u8 r1) a3 r3 r4 r5 r6 r7 a9 (fun (r11 : Int) (r12 : Int) (r13 : List UInt8) (r14 : Int) (r15 : Int) (r16 : Int) (r17 : Int) (r18 : List Int) =>
       bif (decide (r11 = (0 : Int))) then
        call (.s3 a0 a1 a2 r12 r13 r14 r15 r16 r17 r18)
       else
        K0 r11 r12 r13 r14 r15 r16 r17 r18) (fun (r19 : Int) (r20 : Int) (r21 : List UInt8) (r22 : Int) (r23 : Int) (r24 : Int) (r25 : Int) (r26 : List Int) =>
       bif (decide (r19 = (0 : Int))) then
        call (.s3 a0 a1 a2 r20 r21 r22 r23 r24 r25 r26)
       else
        K0 r19 r20 r21 r22 r23 r24 r25 r26)
     else
      f142 m r1 a2 a3 r3 r4 r5 r6 r7 a9 (fun (r27 : Int) (r28 : Int) (r29 : List UInt8) (r30 : Int) (r31 : Int) (r32 : Int) (r33 : Int) (r34 : List Int) =>
       bif (decide (r27 = (0 : Int))) then
        call (.s3 a0 a1 a2 r28 r29 r30 r31 r32 r33 r34)
       else
        K0 r27 r28 r29 r30 r31 r32 r33 r34) (fun (r35 : Int) (r36 : Int) (r37 : List UInt8) (r38 : Int) (r39 : Int) (r40 : Int) (r41 : Int) (r42 : List Int) =>
       bif (decide (r35 = (0 : Int))) then
        call (.s3 a0 a1 a2 r36 r37 r38 r39 r40 r41 r42)
       else
        K0 r35 r36 r37 r38 r39 r40 r41 r42))
noncomputable def f111 (m : Nat) (a0 : Int) (a1 : List UInt8) (a2 : Int) (a3 : Int) (a4 : Int) (a5 : Int) (K0 : Int → Int → List UInt8 → Int → Int → Int → Int → List Int → Option R) : Option R := iter (f111.step m K0) m (.s0 a0 a1 a2 a3 a4 a5)
noncomputable def f111.pc (m : Nat) (other : Con R) : Con R := pcon [.p (.ptr 0 0)] [.box [.ptr 1 0, .nils, .dat (.int .i64)] 144, .box [.dat .str, .dat (.int .i64), .dat (.int .u64), .dat (.int .i64), .dat (.int .i64)] 180] (fun x y K => f111 m (y.1.2.2.1) (y.2.1.1) (y.2.1.2.1) (y.2.1.2.2.1) (y.2.1.2.2.2.1) (y.2.1.2.2.2.2.1) (fun r0 r1 r2 r3 r4 r5 r6 r7 => K (.pv (.int .i64) r0) [.box [.ptr 1 0, .sl 2 none, .pv (.int .i64) r1] 144, .box [.pv .str r2, .pv (.int .i64) r3, .pv (.int .u64) r4, .pv (.int .i64) r5, .pv (.int .i64) r6] 180, .row (.int .u8) r7 5 true])) other
noncomputable def f111.ct (m : Nat) (f : Nat) : Option (List Mode × Con R) := match f with
  | 137 => some ([.own, .bor], (f137.pc m ncon))
  | 138 => some ([.own], (f138v2.pc m ncon))
  | 81 => some ([], (f81.pc m ncon))
  | 140 => some ([.bor, .own], (f140.pc m ncon))
  | 141 => some ([.own, .bor], (f141.pc m ncon))
  | 142 => some ([.own, .bor, .bor], (f142.pc m ncon))
  | _ => none
theorem f111.seg (m : Nat) : Seg (f111.ct (R := R) m) f111.C 2 Tryz.f111 (some [some (.int .i64)]) f111.todo f111.fr f111.hp (fun K => f111.step m (fun r0 r1 r2 r3 r4 r5 r6 r7 => K (.pv (.int .i64) r0) [.box [.ptr 1 0, .sl 2 none, .pv (.int .i64) r1] 144, .box [.pv .str r2, .pv (.int .i64) r3, .pv (.int .u64) r4, .pv (.int .i64) r5, .pv (.int .i64) r6] 180, .row (.int .u8) r7 5 true])) := fun K call s => by cases s <;> kernel_rfl
theorem pl138 : Plain Tryz.prog 138 := ⟨Tryz.f138, by kernel_rfl, by kernel_rfl, by kernel_rfl⟩
theorem pl142 : Plain Tryz.prog 142 := ⟨Tryz.f142, by kernel_rfl, by kernel_rfl, by kernel_rfl⟩
theorem f111.ctok (hl : Laid G H0) (m : Nat) : CtOk G H0 (f111.ct (R := R) m) := by
  intro f ms F h
  unfold f111.ct at h
  split at h
  · exact ctk h pl137 (f137.ok hl m (ncon_ok _))
  · exact ctk h pl138 (f138v2.ok hl m (ncon_ok _))
  · exact ctk h pl81 (f81.ok hl m (ncon_ok _))
  · exact ctk h pl140 (f140.ok hl m (ncon_ok _))
  · exact ctk h pl141 (f141.ok hl m (ncon_ok _))
  · exact ctk h pl142 (f142.ok hl m (ncon_ok _))
  · cases h
theorem f111.ok (hl : Laid G H0) (m : Nat) {other : Con R} (ho : FOk Tryz.prog G H0 111 other) : FOk Tryz.prog G H0 111 (f111.pc m other) :=
  seg_ok (c := bodyOf Tryz.f111) (by kernel_rfl) (by kernel_rfl) ho (f111.ctok hl m) m (f111.seg m) (fun x y => .s0 (y.1.2.2.1) (y.2.1.1) (y.2.1.2.1) (y.2.1.2.2.1) (y.2.1.2.2.2.1) (y.2.1.2.2.2.2.1)) (fun x y K => by kernel_rfl) fun _ _ _ => rfl

noncomputable def f112.C : Cuts := ⟨(fun q => match q with
  | _ => none), (fun _ => none)⟩
inductive f112.St where
  | s0 (a0 : Option ((List UInt8 × (Int × (Int × (Int × Int))))))
noncomputable def f112.todo : f112.St → List Item
  | .s0 _ => [.code (bodyOf Tryz.f112)]
noncomputable def f112.fr : f112.St → List SV
  | .s0 a0 => .pv (.ptr (.prod .str (.prod (.int .i64) (.prod (.int .u64) (.prod (.int .i64) (.int .i64)))))) a0 :: ud 17 []
noncomputable def f112.hp : f112.St → List Blk
  | .s0 a0 => []
noncomputable def f112.step (m : Nat) (K0 : Int → Option R) (call : f112.St → Option R) : f112.St → Option R
  | .s0 a0 => 
  deref a0 fun (p1 : (List UInt8 × (Int × (Int × (Int × Int))))) =>
  deref a0 fun (p2 : (List UInt8 × (Int × (Int × (Int × Int))))) =>
  deref a0 fun (p5 : (List UInt8 × (Int × (Int × (Int × Int))))) =>
  K0 (IntKind.wrap .i64 ((IntKind.wrap .i64 (p1.2.1 - (IntKind.wrap .i64 (Int.tdiv p2.2.2.2.1 (8 : Int))))) - p5.2.2.2.2))
noncomputable def f112 (m : Nat) (a0 : Option ((List UInt8 × (Int × (Int × (Int × Int)))))) (K0 : Int → Option R) : Option R := iter (f112.step m K0) m (.s0 a0)
noncomputable def f112.pc (m : Nat) (other : Con R) : Con R := pcon [.p (.dat (.ptr (.prod .str (.prod (.int .i64) (.prod (.int .u64) (.prod (.int .i64) (.int .i64)))))))] [] (fun x y K => f112 m (x.1) (fun r0 => K (.pv (.int .i64) r0) [])) other
noncomputable def f112.ct (m : Nat) (f : Nat) : Option (List Mode × Con R) := match f with
  | _ => none
theorem f112.seg (m : Nat) : Seg (f112.ct (R := R) m) f112.C 0 Tryz.f112 (some [some (.int .i64)]) f112.todo f112.fr f112.hp (fun K => f112.step m (fun r0 => K (.pv (.int .i64) r0) [])) := fun K call s => by cases s <;> kernel_rfl
theorem f112.ctok (hl : Laid G H0) (m : Nat) : CtOk G H0 (f112.ct (R := R) m) := fun f ms F h => nomatch h
theorem f112.ok (hl : Laid G H0) (m : Nat) {other : Con R} (ho : FOk Tryz.prog G H0 112 other) : FOk Tryz.prog G H0 112 (f112.pc m other) :=
  seg_ok (c := bodyOf Tryz.f112) (by kernel_rfl) (by kernel_rfl) ho (f112.ctok hl m) m (f112.seg m) (fun x y => .s0 (x.1)) (fun x y K => by kernel_rfl) fun _ _ _ => rfl

noncomputable def f70.C : Cuts := ⟨(fun q => match q with
  | _ => none), (fun _ => none)⟩
inductive f70.St where
  | s0 (a0 : List UInt8) (a1 : Int) (a2 : Int)
noncomputable def f70.todo : f70.St → List Item
  | .s0 _ _ _ => [.code (bodyOf Tryz.f70)]
noncomputable def f70.fr : f70.St → List SV
  | .s0 a0 a1 a2 => .pv .str a0 :: .pv (.int .i64) a1 :: .pv (.int .i64) a2 :: ud 45 []
noncomputable def f70.hp : f70.St → List Blk
  | .s0 a0 a1 a2 => []
noncomputable def f70.step (m : Nat) (K0 : List UInt8 → Int → Int → Option R) (call : f70.St → Option R) : f70.St → Option R
  | .s0 a0 a1 a2 => 
  bif (!(decide (a1 < (0 : Int)))) then
   bif (!(decide ((((List.length a0) : Nat) : Int) < a1))) then
    bif (!(decide (a2 < (0 : Int)))) then
     bif (decide ((65536 : Int) < a2)) then
      K0 ([] : List UInt8) (0 : Int) (1 : Int)
     else
      f110 m a0 a1 (fun (r1 : List UInt8) (r2 : Int) (r3 : Int) (r4 : Int) (r5 : Int) =>
       f111 m a2 r1 r2 r3 r4 r5 (fun (r6 : Int) (r7 : Int) (r8 : List UInt8) (r9 : Int) (r10 : Int) (r11 : Int) (r12 : Int) (r13 : List Int) =>
        bif (!(decide (r6 = (0 : Int)))) then
         K0 ([] : List UInt8) (0 : Int) r6
        else
         f112 m (some (r8, (r9, (r10, (r11, r12))))) (fun (r16 : Int) =>
          K0 (bytesOf r13) r16 (0 : Int))))
    else
     K0 ([] : List UInt8) (0 : Int) (1 : Int)
   else
    K0 ([] : List UInt8) (0 : Int) (1 : Int)
  else
   K0 ([] : List UInt8) (0 : Int) (1 : Int)
noncomputable def f70 (m : Nat) (a0 : List UInt8) (a1 : Int) (a2 : Int) (K0 : List UInt8 → Int → Int → Option R) : Option R := iter (f70.step m K0) m (.s0 a0 a1 a2)
noncomputable def f70.pc (m : Nat) (other : Con R) : Con R := pcon [.p (.dat .str), .p (.dat (.int .i64)), .p (.dat (.int .i64))] [] (fun x y K => f70 m (x.1) (x.2.1) (x.2.2.1) (fun r0 r1 r2 => K (.tup [.pv .str r0, .pv (.int .i64) r1, .pv (.int .i64) r2]) [])) other
noncomputable def f70.ct (m : Nat) (f : Nat) : Option (List Mode × Con R) := match f with
  | 110 => some ([.bor, .bor], (f110.pc m ncon))
  | 111 => some ([.own], (f111.pc m ncon))
  | 112 => some ([.bor], (f112.pc m ncon))
  | _ => none
theorem f70.seg (m : Nat) : Seg (f70.ct (R := R) m) f70.C 0 Tryz.f70 (some [some .str, some (.int .i64), some (.int .i64)]) f70.todo f70.fr f70.hp (fun K => f70.step m (fun r0 r1 r2 => K (.tup [.pv .str r0, .pv (.int .i64) r1, .pv (.int .i64) r2]) [])) := fun K call s => by cases s <;> kernel_rfl
theorem pl110 : Plain Tryz.prog 110 := ⟨Tryz.f110, by kernel_rfl, by kernel_rfl, by kernel_rfl⟩
theorem pl111 : Plain Tryz.prog 111 := ⟨Tryz.f111, by kernel_rfl, by kernel_rfl, by kernel_rfl⟩
theorem pl112 : Plain Tryz.prog 112 := ⟨Tryz.f112, by kernel_rfl, by kernel_rfl, by kernel_rfl⟩
theorem f70.ctok (hl : Laid G H0) (m : Nat) : CtOk G H0 (f70.ct (R := R) m) := by
  intro f ms F h
  unfold f70.ct at h
  split at h
  · exact ctk h pl110 (f110.ok hl m (ncon_ok _))
  · exact ctk h pl111 (f111.ok hl m (ncon_ok _))
  · exact ctk h pl112 (f112.ok hl m (ncon_ok _))
  · cases h
theorem f70.ok (hl : Laid G H0) (m : Nat) {other : Con R} (ho : FOk Tryz.prog G H0 70 other) : FOk Tryz.prog G H0 70 (f70.pc m other) :=
  seg_ok (c := bodyOf Tryz.f70) (by kernel_rfl) (by kernel_rfl) ho (f70.ctok hl m) m (f70.seg m) (fun x y => .s0 (x.1) (x.2.1) (x.2.2.1)) (fun x y K => by kernel_rfl) fun _ _ _ => rfl

noncomputable def f71.C : Cuts := ⟨(fun q => match q with
  | 3 => some { live := [0, 3, 6, 7], adopt := [] }
  | _ => none), (fun _ => none)⟩
inductive f71.St where
  | s0 (a0 : List UInt8)
  | s1 (a0 : List UInt8) (a1 : Int) (a2 : Int) (a3 : Int)
noncomputable def f71.todo : f71.St → List Item
  | .s0 _ => [.code (bodyOf Tryz.f71)]
  | .s1 _ _ _ _ => atBef Tryz.f71 3
noncomputable def f71.fr : f71.St → List SV
  | .s0 a0 => .pv .str a0 :: ud 18 []
  | .s1 a0 a1 a2 a3 => .pv .str a0 :: .dead :: .dead :: .pv (.int .u64) a1 :: .dead :: .dead :: .pv (.int .i64) a2 :: .pv (.int .i64) a3 :: dd 11 []
noncomputable def f71.hp : f71.St → List Blk
  | .s0 a0 => []
  | .s1 a0 a1 a2 a3 => []
noncomputable def f71.step (m : Nat) (K0 : Int → Option R) (call : f71.St → Option R) : f71.St → Option R
  | .s0 a0 => 
  call (.s1 a0 (0 : Int) (((List.length a0) : Nat) : Int) (0 : Int))
  | .s1 a0 a1 a2 a3 => 
  bif (decide (a3 < a2)) then
   bif (inB a3 (List.length a0)) then
    call (.s1 a0 (ibits .or .u64 (IntKind.wrap .u64 (a1 * (256 : Int))) (IntKind.wrap .u64 ((UInt8.toNat (List.getD a0 (Int.toNat a3) 0) : Nat) : Int))) a2 (IntKind.wrap .i64 (a3 + (1 : Int))))
   else
    none
  else
   K0 a1
noncomputable def f71 (m : Nat) (a0 : List UInt8) (K0 : Int → Option R) : Option R := iter (f71.step m K0) m (.s0 a0)
noncomputable def f71.pc (m : Nat) (other : Con R) : Con R := pcon [.p (.dat .str)] [] (fun x y K => f71 m (x.1) (fun r0 => K (.pv (.int .u64) r0) [])) other
noncomputable def f71.ct (m : Nat) (f : Nat) : Option (List Mode × Con R) := match f with
  | _ => none
theorem f71.seg (m : Nat) : Seg (f71.ct (R := R) m) f71.C 0 Tryz.f71 (some [some (.int .u64)]) f71.todo f71.fr f71.hp (fun K => f71.step m (fun r0 => K (.pv (.int .u64) r0) [])) := fun K call s => by cases s <;> kernel_rfl
theorem f71.ctok (hl : Laid G H0) (m : Nat) : CtOk G H0 (f71.ct (R := R) m) := fun f ms F h => nomatch h
theorem f71.ok (hl : Laid G H0) (m : Nat) {other : Con R} (ho : FOk Tryz.prog G H0 71 other) : FOk Tryz.prog G H0 71 (f71.pc m other) :=
  seg_ok (c := bodyOf Tryz.f71) (by kernel_rfl) (by kernel_rfl) ho (f71.ctok hl m) m (f71.seg m) (fun x y => .s0 (x.1)) (fun x y K => by kernel_rfl) fun _ _ _ => rfl

noncomputable def f37.C : Cuts := ⟨(fun q => match q with
  | 2 => some { live := [], adopt := [] }
  | _ => none), (fun _ => none)⟩
inductive f37.St where
  | s0 (a0 : List UInt8) (a1 : Int) (a2 : Int)
  | s1
noncomputable def f37.todo : f37.St → List Item
  | .s0 _ _ _ => [.code (bodyOf Tryz.f37)]
  | .s1 => atBef Tryz.f37 2
noncomputable def f37.fr : f37.St → List SV
  | .s0 a0 a1 a2 => .pv .str a0 :: .pv (.int .i64) a1 :: .pv (.int .i64) a2 :: ud 74 []
  | .s1 => dd 77 []
noncomputable def f37.hp : f37.St → List Blk
  | .s0 a0 a1 a2 => []
  | .s1 => []
noncomputable def f37.step (m : Nat) (K0 : List UInt8 → Int → Int → Option R) (call : f37.St → Option R) : f37.St → Option R
  | .s0 a0 a1 a2 => 
  bif (!(decide (a1 < (0 : Int)))) then
   bif (!(decide ((((List.length a0) : Nat) : Int) < a1))) then
    bif (!(decide (a2 < (0 : Int)))) then
     bif (decide ((65536 : Int) < a2)) then
      call (.s1)
     else
      bif (decide ((IntKind.wrap .i64 ((((List.length a0) : Nat) : Int) - a1)) < (2 : Int))) then
       K0 ([] : List UInt8) (0 : Int) (6 : Int)
      else
       bif (inB a1 (List.length a0)) then
        let x3 : Int := IntKind.wrap .i64 (a1 + (1 : Int))
        bif (inB x3 (List.length a0)) then
         f69 m ((UInt8.toNat (List.getD a0 (Int.toNat a1) 0) : Nat) : Int) ((UInt8.toNat (List.getD a0 (Int.toNat x3) 0) : Nat) : Int) (fun (r5 : Bool) =>
          bif (!r5) then
           K0 ([] : List UInt8) (0 : Int) (3 : Int)
          else
           f70 m a0 (IntKind.wrap .i64 (a1 + (2 : Int))) a2 (fun (r8 : List UInt8) (r9 : Int) (r10 : Int) =>
            bif (!(decide (r10 = (0 : Int)))) then
             K0 ([] : List UInt8) (0 : Int) r10
            else
             let x13 : Int := IntKind.wrap .i64 ((IntKind.wrap .i64 (a1 + (2 : Int))) + r9)
             bif (decide ((IntKind.wrap .i64 ((((List.length a0) : Nat) : Int) - x13)) < (4 : Int))) then
              K0 ([] : List UInt8) (0 : Int) (6 : Int)
             else
              let x15 : Int := IntKind.wrap .i64 (x13 + (4 : Int))
              bif (leB x15 (List.length a0)) then
               bif (leB x13 (Int.toNat x15)) then
                f71 m (List.drop (Int.toNat x13) (List.take (Int.toNat x15) a0)) (fun (r17 : Int) =>
                 f72 m r8 (fun (r19 : Int) =>
                  bif (!(decide ((IntKind.wrap .u32 r17) = r19))) then
                   K0 ([] : List UInt8) (0 : Int) (5 : Int)
                  else
                   K0 r8 (IntKind.wrap .i64 (r9 + (6 : Int))) (0 : Int)))
               else
                none
              else
               none))
        else
         none
       else
        none
    else
     call (.s1)
   else
    call (.s1)
  else
   call (.s1)
  | .s1 => 
  K0 ([] : List UInt8) (0 : Int) (1 : Int)
noncomputable def f37 (m : Nat) (a0 : List UInt8) (a1 : Int) (a2 : Int) (K0 : List UInt8 → Int → Int → Option R) : Option R := iter (f37.step m K0) m (.s0 a0 a1 a2)
noncomputable def f37.pc (m : Nat) (other : Con R) : Con R := pcon [.p (.dat .str), .p (.dat (.int .i64)), .p (.dat (.int .i64))] [] (fun x y K => f37 m (x.1) (x.2.1) (x.2.2.1) (fun r0 r1 r2 => K (.tup [.pv .str r0, .pv (.int .i64) r1, .pv (.int .i64) r2]) [])) other
noncomputable def f37.ct (m : Nat) (f : Nat) : Option (List Mode × Con R) := match f with
  | 69 => some ([.bor, .bor], (f69.pc m ncon))
  | 70 => some ([.bor, .bor, .bor], (f70.pc m ncon))
  | 71 => some ([.bor], (f71.pc m ncon))
  | 72 => some ([.bor], (f72.pc m ncon))
  | _ => none
theorem f37.seg (m : Nat) : Seg (f37.ct (R := R) m) f37.C 0 Tryz.f37 (some [some .str, some (.int .i64), some (.int .i64)]) f37.todo f37.fr f37.hp (fun K => f37.step m (fun r0 r1 r2 => K (.tup [.pv .str r0, .pv (.int .i64) r1, .pv (.int .i64) r2]) [])) := fun K call s => by cases s <;> kernel_rfl
theorem pl69 : Plain Tryz.prog 69 := ⟨Tryz.f69, by kernel_rfl, by kernel_rfl, by kernel_rfl⟩
theorem pl70 : Plain Tryz.prog 70 := ⟨Tryz.f70, by kernel_rfl, by kernel_rfl, by kernel_rfl⟩
theorem pl71 : Plain Tryz.prog 71 := ⟨Tryz.f71, by kernel_rfl, by kernel_rfl, by kernel_rfl⟩
theorem f37.ctok (hl : Laid G H0) (m : Nat) : CtOk G H0 (f37.ct (R := R) m) := by
  intro f ms F h
  unfold f37.ct at h
  split at h
  · exact ctk h pl69 (f69.ok hl m (ncon_ok _))
  · exact ctk h pl70 (f70.ok hl m (ncon_ok _))
  · exact ctk h pl71 (f71.ok hl m (ncon_ok _))
  · exact ctk h pl72 (f72.ok hl m (ncon_ok _))
  · cases h
theorem f37.ok (hl : Laid G H0) (m : Nat) {other : Con R} (ho : FOk Tryz.prog G H0 37 other) : FOk Tryz.prog G H0 37 (f37.pc m other) :=
  seg_ok (c := bodyOf Tryz.f37) (by kernel_rfl) (by kernel_rfl) ho (f37.ctok hl m) m (f37.seg m) (fun x y => .s0 (x.1) (x.2.1) (x.2.2.1)) (fun x y K => by kernel_rfl) fun _ _ _ => rfl

noncomputable def f115.C : Cuts := ⟨(fun q => match q with
  | _ => none), (fun _ => none)⟩
inductive f115.St where
  | s0 (a0 : List UInt8) (a1 : List UInt8)
noncomputable def f115.todo : f115.St → List Item
  | .s0 _ _ => [.code (bodyOf Tryz.f115)]
noncomputable def f115.fr : f115.St → List SV
  | .s0 a0 a1 => .pv .str a0 :: .pv .str a1 :: ud 21 []
noncomputable def f115.hp : f115.St → List Blk
  | .s0 a0 a1 => []
noncomputable def f115.step (m : Nat) (K0 : List UInt8 → List UInt8 → Bool → Option R) (call : f115.St → Option R) : f115.St → Option R
  | .s0 a0 a1 => 
  x143 a0 a1 (fun (r1 : Int) =>
   bif (decide ((0 : Int) ≤ r1)) then
    bif (leB r1 (List.length a0)) then
     let x3 : Int := IntKind.wrap .i64 (r1 + (((List.length a1) : Nat) : Int))
     bif (leB x3 (List.length a0)) then
      K0 (List.take (Int.toNat r1) a0) (List.drop (Int.toNat x3) a0) true
     else
      none
    else
     none
   else
    K0 a0 ([] : List UInt8) false)
noncomputable def f115 (m : Nat) (a0 : List UInt8) (a1 : List UInt8) (K0 : List UInt8 → List UInt8 → Bool → Option R) : Option R := iter (f115.step m K0) m (.s0 a0 a1)
noncomputable def f115.pc (m : Nat) (other : Con R) : Con R := pcon [.p (.dat .str), .p (.dat .str)] [] (fun x y K => f115 m (x.1) (x.2.1) (fun r0 r1 r2 => K (.tup [.pv .str r0, .pv .str r1, .pv .bool r2]) [])) other
noncomputable def f115.ct (m : Nat) (f : Nat) : Option (List Mode × Con R) := match f with
  | 143 => some ([.bor, .bor], (x143.pc ncon))
  | _ => none
theorem f115.seg (m : Nat) : Seg (f115.ct (R := R) m) f115.C 0 Tryz.f115 (some [some .str, some .str, some .bool]) f115.todo f115.fr f115.hp (fun K => f115.step m (fun r0 r1 r2 => K (.tup [.pv .str r0, .pv .str r1, .pv .bool r2]) [])) := fun K call s => by cases s <;> kernel_rfl
theorem pl143 : Plain Tryz.prog 143 := ⟨Tryz.f143, by kernel_rfl, by kernel_rfl, by kernel_rfl⟩
theorem f115.ctok (hl : Laid G H0) (m : Nat) : CtOk G H0 (f115.ct (R := R) m) := by
  intro f ms F h
  unfold f115.ct at h
  split at h
  · exact ctk h pl143 (x143.ok hl (ncon_ok _))
  · cases h
theorem f115.ok (hl : Laid G H0) (m : Nat) {other : Con R} (ho : FOk Tryz.prog G H0 115 other) : FOk Tryz.prog G H0 115 (f115.pc m other) :=
  seg_ok (c := bodyOf Tryz.f115) (by kernel_rfl) (by kernel_rfl) ho (f115.ctok hl m) m (f115.seg m) (fun x y => .s0 (x.1) (x.2.1)) (fun x y K => by kernel_rfl) fun _ _ _ => rfl

noncomputable def f73.C : Cuts := ⟨(fun q => match q with
  | _ => none), (fun _ => none)⟩
inductive f73.St where
  | s0 (a0 : List UInt8) (a1 : List UInt8)
noncomputable def f73.todo : f73.St → List Item
  | .s0 _ _ => [.code (bodyOf Tryz.f73)]
noncomputable def f73.fr : f73.St → List SV
  | .s0 a0 a1 => .pv .str a0 :: .pv .str a1 :: ud 11 []
noncomputable def f73.hp : f73.St → List Blk
  | .s0 a0 a1 => []
noncomputable def f73.step (m : Nat) (K0 : List UInt8 → List UInt8 → Bool → Option R) (call : f73.St → Option R) : f73.St → Option R
  | .s0 a0 a1 => 
  f115 m a0 a1 (fun (r1 : List UInt8) (r2 : List UInt8) (r3 : Bool) =>
   K0 r1 r2 r3)
noncomputable def f73 (m : Nat) (a0 : List UInt8) (a1 : List UInt8) (K0 : List UInt8 → List UInt8 → Bool → Option R) : Option R := iter (f73.step m K0) m (.s0 a0 a1)
noncomputable def f73.pc (m : Nat) (other : Con R) : Con R := pcon [.p (.dat .str), .p (.dat .str)] [] (fun x y K => f73 m (x.1) (x.2.1) (fun r0 r1 r2 => K (.tup [.pv .str r0, .pv .str r1, .pv .bool r2]) [])) other
noncomputable def f73.ct (m : Nat) (f : Nat) : Option (List Mode × Con R) := match f with
  | 115 => some ([.bor, .bor], (f115.pc m ncon))
  | _ => none
theorem f73.seg (m : Nat) : Seg (f73.ct (R := R) m) f73.C 0 Tryz.f73 (some [some .str, some .str, some .bool]) f73.todo f73.fr f73.hp (fun K => f73.step m (fun r0 r1 r2 => K (.tup [.pv .str r0, .pv .str r1, .pv .bool r2]) [])) := fun K call s => by cases s <;> kernel_rfl
theorem pl115 : Plain Tryz.prog 115 := ⟨Tryz.f115, by kernel_rfl, by kernel_rfl, by kernel_rfl⟩
theorem f73.ctok (hl : Laid G H0) (m : Nat) : CtOk G H0 (f73.ct (R := R) m) := by
  intro f ms F h
  unfold f73.ct at h
  split at h
  · exact ctk h pl115 (f115.ok hl m (ncon_ok _))
  · cases h
theorem f73.ok (hl : Laid G H0) (m : Nat) {other : Con R} (ho : FOk Tryz.prog G H0 73 other) : FOk Tryz.prog G H0 73 (f73.pc m other) :=
  seg_ok (c := bodyOf Tryz.f73) (by kernel_rfl) (by kernel_rfl) ho (f73.ctok hl m) m (f73.seg m) (fun x y => .s0 (x.1) (x.2.1)) (fun x y K => by kernel_rfl) fun _ _ _ => rfl

noncomputable def f74.C : Cuts := ⟨(fun q => match q with
  | _ => none), (fun _ => none)⟩
inductive f74.St where
  | s0 (a0 : List UInt8)
noncomputable def f74.todo : f74.St → List Item
  | .s0 _ => [.code (bodyOf Tryz.f74)]
noncomputable def f74.fr : f74.St → List SV
  | .s0 a0 => .pv .str a0 :: ud 28 []
noncomputable def f74.hp : f74.St → List Blk
  | .s0 a0 => []
noncomputable def f74.step (m : Nat) (K0 : Int → Bool → Option R) (call : f74.St → Option R) : f74.St → Option R
  | .s0 a0 => 
  x116 a0 (fun (r1 : Int) (r2 : Bool) =>
   bif (!(!r2)) then
    bif (!(decide (r1 < (0 : Int)))) then
     bif (!(decide ((9 : Int) < (((List.length a0) : Nat) : Int)))) then
      x41 r1 (fun (r4 : List UInt8) =>
       bif (!(decide (r4 = a0))) then
        K0 (0 : Int) false
       else
        K0 r1 true)
     else
      K0 (0 : Int) false
    else
     K0 (0 : Int) false
   else
    K0 (0 : Int) false)
noncomputable def f74 (m : Nat) (a0 : List UInt8) (K0 : Int → Bool → Option R) : Option R := iter (f74.step m K0) m (.s0 a0)
noncomputable def f74.pc (m : Nat) (other : Con R) : Con R := pcon [.p (.dat .str)] [] (fun x y K => f74 m (x.1) (fun r0 r1 => K (.tup [.pv (.int .i64) r0, .pv .bool r1]) [])) other
noncomputable def f74.ct (m : Nat) (f : Nat) : Option (List Mode × Con R) := match f with
  | 116 => some ([.bor], (x116.pc ncon))
  | 41 => some ([.bor], (x41.pc ncon))
  | _ => none
theorem f74.seg (m : Nat) : Seg (f74.ct (R := R) m) f74.C 0 Tryz.f74 (some [some (.int .i64), some .bool]) f74.todo f74.fr f74.hp (fun K => f74.step m (fun r0 r1 => K (.tup [.pv (.int .i64) r0, .pv .bool r1]) [])) := fun K call s => by cases s <;> kernel_rfl
theorem pl116 : Plain Tryz.prog 116 := ⟨Tryz.f116, by kernel_rfl, by kernel_rfl, by kernel_rfl⟩
theorem f74.ctok (hl : Laid G H0) (m : Nat) : CtOk G H0 (f74.ct (R := R) m) := by
  intro f ms F h
  unfold f74.ct at h
  split at h
  · exact ctk h pl116 (x116.ok hl (ncon_ok _))
  · exact ctk h pl41 (x41.ok hl (ncon_ok _))
  · cases h
theorem f74.ok (hl : Laid G H0) (m : Nat) {other : Con R} (ho : FOk Tryz.prog G H0 74 other) : FOk Tryz.prog G H0 74 (f74.pc m other) :=
  seg_ok (c := bodyOf Tryz.f74) (by kernel_rfl) (by kernel_rfl) ho (f74.ctok hl m) m (f74.seg m) (fun x y => .s0 (x.1)) (fun x y K => by kernel_rfl) fun _ _ _ => rfl

noncomputable def f75.C : Cuts := ⟨(fun q => match q with
  | 2 => some { live := [0, 3], adopt := [] }
  | _ => none), (fun _ => none)⟩
inductive f75.St where
  | s0 (a0 : List UInt8)
  | s1 (a0 : List UInt8) (a1 : Int)
noncomputable def f75.todo : f75.St → List Item
  | .s0 _ => [.code (bodyOf Tryz.f75)]
  | .s1 _ _ => atBef Tryz.f75 2
noncomputable def f75.fr : f75.St → List SV
  | .s0 a0 => .pv .str a0 :: ud 12 []
  | .s1 a0 a1 => .pv .str a0 :: .dead :: .dead :: .pv (.int .i64) a1 :: dd 9 []
noncomputable def f75.hp : f75.St → List Blk
  | .s0 a0 => []
  | .s1 a0 a1 => []
noncomputable def f75.step (m : Nat) (K0 : Int → Option R) (call : f75.St → Option R) : f75.St → Option R
  | .s0 a0 => 
  call (.s1 a0 (1 : Int))
  | .s1 a0 a1 => 
  bif (decide (a1 ≤ (4 : Int))) then
   f40 m a1 (fun (r1 : List UInt8) =>
    bif (decide (r1 = a0)) then
     K0 a1
    else
     call (.s1 a0 (IntKind.wrap .i64 (a1 + (1 : Int)))))
  else
   K0 (0 : Int)
noncomputable def f75 (m : Nat) (a0 : List UInt8) (K0 : Int → Option R) : Option R := iter (f75.step m K0) m (.s0 a0)
noncomputable def f75.pc (m : Nat) (other : Con R) : Con R := pcon [.p (.dat .str)] [] (fun x y K => f75 m (x.1) (fun r0 => K (.pv (.int .i64) r0) [])) other
noncomputable def f75.ct (m : Nat) (f : Nat) : Option (List Mode × Con R) := match f with
  | 40 => some ([.bor], (f40.pc m ncon))
  | _ => none
theorem f75.seg (m : Nat) : Seg (f75.ct (R := R) m) f75.C 0 Tryz.f75 (some [some (.int .i64)]) f75.todo f75.fr f75.hp (fun K => f75.step m (fun r0 => K (.pv (.int .i64) r0) [])) := fun K call s => by cases s <;> kernel_rfl
theorem f75.ctok (hl : Laid G H0) (m : Nat) : CtOk G H0 (f75.ct (R := R) m) := by
  intro f ms F h
  unfold f75.ct at h
  split at h
  · exact ctk h pl40 (f40.ok hl m (ncon_ok _))
  · cases h
theorem f75.ok (hl : Laid G H0) (m : Nat) {other : Con R} (ho : FOk Tryz.prog G H0 75 other) : FOk Tryz.prog G H0 75 (f75.pc m other) :=
  seg_ok (c := bodyOf Tryz.f75) (by kernel_rfl) (by kernel_rfl) ho (f75.ctok hl m) m (f75.seg m) (fun x y => .s0 (x.1)) (fun x y K => by kernel_rfl) fun _ _ _ => rfl

noncomputable def f38.C : Cuts := ⟨(fun q => match q with
  | _ => none), (fun _ => none)⟩
inductive f38.St where
  | s0 (a0 : List UInt8)
noncomputable def f38.todo : f38.St → List Item
  | .s0 _ => [.code (bodyOf Tryz.f38)]
noncomputable def f38.fr : f38.St → List SV
  | .s0 a0 => .pv .str a0 :: ud 65 []
noncomputable def f38.hp : f38.St → List Blk
  | .s0 a0 => []
noncomputable def f38.step (m : Nat) (K0 : Int → List UInt8 → Int → Option R) (call : f38.St → Option R) : f38.St → Option R
  | .s0 a0 => 
  f73 m a0 ([0] : List UInt8) (fun (r1 : List UInt8) (r2 : List UInt8) (r3 : Bool) =>
   f73 m r1 ([32] : List UInt8) (fun (r4 : List UInt8) (r5 : List UInt8) (r6 : Bool) =>
    f74 m r5 (fun (r7 : Int) (r8 : Bool) =>
     bif (!(!r3)) then
      bif (!(!r6)) then
       bif (!r8) then
        K0 (0 : Int) ([] : List UInt8) (3 : Int)
       else
        f75 m r4 (fun (r12 : Int) =>
         bif (decide (r12 = (0 : Int))) then
          K0 (0 : Int) ([] : List UInt8) (10 : Int)
         else
          bif (decide ((65000 : Int) < r7)) then
           K0 (0 : Int) ([] : List UInt8) (2 : Int)
          else
           bif (decide ((((List.length r2) : Nat) : Int) < r7)) then
            K0 (0 : Int) ([] : List UInt8) (6 : Int)
           else
            bif (decide (r7 < (((List.length r2) : Nat) : Int))) then
             K0 (0 : Int) ([] : List UInt8) (3 : Int)
            else
             f75 m r4 (fun (r13 : Int) =>
              K0 r13 r2 (0 : Int)))
      else
       K0 (0 : Int) ([] : List UInt8) (3 : Int)
     else
      K0 (0 : Int) ([] : List UInt8) (3 : Int))))
noncomputable def f38 (m : Nat) (a0 : List UInt8) (K0 : Int → List UInt8 → Int → Option R) : Option R := iter (f38.step m K0) m (.s0 a0)
noncomputable def f38.pc (m : Nat) (other : Con R) : Con R := pcon [.p (.dat .str)] [] (fun x y K => f38 m (x.1) (fun r0 r1 r2 => K (.tup [.agg [.pv (.int .i64) r0, .pv .str r1], .pv (.int .i64) r2]) [])) other
noncomputable def f38.ct (m : Nat) (f : Nat) : Option (List Mode × Con R) := match f with
  | 73 => some ([.bor, .bor], (f73.pc m ncon))
  | 74 => some ([.bor], (f74.pc m ncon))
  | 75 => some ([.bor], (f75.pc m ncon))
  | _ => none
theorem f38.seg (m : Nat) : Seg (f38.ct (R := R) m) f38.C 0 Tryz.f38 (some [some (.prod (.int .i64) .str), some (.int .i64)]) f38.todo f38.fr f38.hp (fun K => f38.step m (fun r0 r1 r2 => K (.tup [.agg [.pv (.int .i64) r0, .pv .str r1], .pv (.int .i64) r2]) [])) := fun K call s => by cases s <;> kernel_rfl
theorem pl73 : Plain Tryz.prog 73 := ⟨Tryz.f73, by kernel_rfl, by kernel_rfl, by kernel_rfl⟩
theorem pl74 : Plain Tryz.prog 74 := ⟨Tryz.f74, by kernel_rfl, by kernel_rfl, by kernel_rfl⟩
theorem pl75 : Plain Tryz.prog 75 := ⟨Tryz.f75, by kernel_rfl, by kernel_rfl, by kernel_rfl⟩
theorem f38.ctok (hl : Laid G H0) (m : Nat) : CtOk G H0 (f38.ct (R := R) m) := by
  intro f ms F h
  unfold f38.ct at h
  split at h
  · exact ctk h pl73 (f73.ok hl m (ncon_ok _))
  · exact ctk h pl74 (f74.ok hl m (ncon_ok _))
  · exact ctk h pl75 (f75.ok hl m (ncon_ok _))
  · cases h
theorem f38.ok (hl : Laid G H0) (m : Nat) {other : Con R} (ho : FOk Tryz.prog G H0 38 other) : FOk Tryz.prog G H0 38 (f38.pc m other) :=
  seg_ok (c := bodyOf Tryz.f38) (by kernel_rfl) (by kernel_rfl) ho (f38.ctok hl m) m (f38.seg m) (fun x y => .s0 (x.1)) (fun x y K => by kernel_rfl) fun _ _ _ => rfl

noncomputable def f17.C : Cuts := ⟨(fun q => match q with
  | _ => none), (fun _ => none)⟩
inductive f17.St where
  | s0 (a0 : List UInt8)
noncomputable def f17.todo : f17.St → List Item
  | .s0 _ => [.code (bodyOf Tryz.f17)]
noncomputable def f17.fr : f17.St → List SV
  | .s0 a0 => .pv .str a0 :: ud 25 []
noncomputable def f17.hp : f17.St → List Blk
  | .s0 a0 => []
noncomputable def f17.step (m : Nat) (K0 : Int → List UInt8 → Int → Option R) (call : f17.St → Option R) : f17.St → Option R
  | .s0 a0 => 
  f37 m a0 (0 : Int) (65536 : Int) (fun (r1 : List UInt8) (r2 : Int) (r3 : Int) =>
   bif (!(decide (r3 = (0 : Int)))) then
    K0 (0 : Int) ([] : List UInt8) r3
   else
    bif (!(decide (r2 = (((List.length a0) : Nat) : Int)))) then
     K0 (0 : Int) ([] : List UInt8) (3 : Int)
    else
     f38 m r1 (fun (r6 : Int) (r7 : List UInt8) (r8 : Int) =>
      K0 r6 r7 r8))
noncomputable def f17 (m : Nat) (a0 : List UInt8) (K0 : Int → List UInt8 → Int → Option R) : Option R := iter (f17.step m K0) m (.s0 a0)
noncomputable def f17.pc (m : Nat) (other : Con R) : Con R := pcon [.p (.dat .str)] [] (fun x y K => f17 m (x.1) (fun r0 r1 r2 => K (.tup [.agg [.pv (.int .i64) r0, .pv .str r1], .pv (.int .i64) r2]) [])) other
noncomputable def f17.ct (m : Nat) (f : Nat) : Option (List Mode × Con R) := match f with
  | 37 => some ([.bor, .bor, .bor], (f37.pc m ncon))
  | 38 => some ([.bor], (f38.pc m ncon))
  | _ => none
theorem f17.seg (m : Nat) : Seg (f17.ct (R := R) m) f17.C 0 Tryz.f17 (some [some (.prod (.int .i64) .str), some (.int .i64)]) f17.todo f17.fr f17.hp (fun K => f17.step m (fun r0 r1 r2 => K (.tup [.agg [.pv (.int .i64) r0, .pv .str r1], .pv (.int .i64) r2]) [])) := fun K call s => by cases s <;> kernel_rfl
theorem pl37 : Plain Tryz.prog 37 := ⟨Tryz.f37, by kernel_rfl, by kernel_rfl, by kernel_rfl⟩
theorem pl38 : Plain Tryz.prog 38 := ⟨Tryz.f38, by kernel_rfl, by kernel_rfl, by kernel_rfl⟩
theorem f17.ctok (hl : Laid G H0) (m : Nat) : CtOk G H0 (f17.ct (R := R) m) := by
  intro f ms F h
  unfold f17.ct at h
  split at h
  · exact ctk h pl37 (f37.ok hl m (ncon_ok _))
  · exact ctk h pl38 (f38.ok hl m (ncon_ok _))
  · cases h
theorem f17.ok (hl : Laid G H0) (m : Nat) {other : Con R} (ho : FOk Tryz.prog G H0 17 other) : FOk Tryz.prog G H0 17 (f17.pc m other) :=
  seg_ok (c := bodyOf Tryz.f17) (by kernel_rfl) (by kernel_rfl) ho (f17.ctok hl m) m (f17.seg m) (fun x y => .s0 (x.1)) (fun x y K => by kernel_rfl) fun _ _ _ => rfl

noncomputable def f16.C : Cuts := ⟨(fun q => match q with
  | _ => none), (fun _ => none)⟩
inductive f16.St where
  | s0 (a0 : Option ((List (List UInt8 × List UInt8) × Int))) (a1 : List UInt8)
noncomputable def f16.todo : f16.St → List Item
  | .s0 _ _ => [.code (bodyOf Tryz.f16)]
noncomputable def f16.fr : f16.St → List SV
  | .s0 a0 a1 => .pv (.ptr (.prod (.sl (.prod .str .str)) (.int .i64))) a0 :: .pv .str a1 :: ud 48 []
noncomputable def f16.hp : f16.St → List Blk
  | .s0 a0 a1 => []
noncomputable def f16.step (m : Nat) (K0 : Int → List UInt8 → Int → Option R) (call : f16.St → Option R) : f16.St → Option R
  | .s0 a0 a1 => 
  f20 m a1 (fun (r1 : List UInt8) (r2 : Int) =>
   bif (!(decide (r2 = (0 : Int)))) then
    K0 (0 : Int) ([] : List UInt8) r2
   else
    f36 m a0 r1 (fun (r4 : List UInt8) (r5 : Int) =>
     bif (!(decide (r5 = (0 : Int)))) then
      K0 (0 : Int) ([] : List UInt8) r5
     else
      f17 m r4 (fun (r7 : Int) (r8 : List UInt8) (r9 : Int) =>
       bif (!(decide (r9 = (0 : Int)))) then
        K0 (0 : Int) ([] : List UInt8) r9
       else
        f19 m r7 r8 (fun (r11 : List UInt8) (r12 : Int) =>
         bif (!(decide (r11 = a1))) then
          K0 (0 : Int) ([] : List UInt8) (5 : Int)
         else
          K0 r7 r8 (0 : Int)))))
noncomputable def f16 (m : Nat) (a0 : Option ((List (List UInt8 × List UInt8) × Int))) (a1 : List UInt8) (K0 : Int → List UInt8 → Int → Option R) : Option R := iter (f16.step m K0) m (.s0 a0 a1)
noncomputable def f16.pc (m : Nat) (other : Con R) : Con R := pcon [.p (.dat (.ptr (.prod (.sl (.prod .str .str)) (.int .i64)))), .p (.dat .str)] [] (fun x y K => f16 m (x.1) (x.2.1) (fun r0 r1 r2 => K (.tup [.agg [.pv (.int .i64) r0, .pv .str r1], .pv (.int .i64) r2]) [])) other
noncomputable def f16.ct (m : Nat) (f : Nat) : Option (List Mode × Con R) := match f with
  | 20 => some ([.bor], (f20.pc m ncon))
  | 36 => some ([.bor, .bor], (f36.pc m ncon))
  | 17 => some ([.bor], (f17.pc m ncon))
  | 19 => some ([.bor], (f19.pc m ncon))
  | _ => none
theorem f16.seg (m : Nat) : Seg (f16.ct (R := R) m) f16.C 0 Tryz.f16 (some [some (.prod (.int .i64) .str), some (.int .i64)]) f16.todo f16.fr f16.hp (fun K => f16.step m (fun r0 r1 r2 => K (.tup [.agg [.pv (.int .i64) r0, .pv .str r1], .pv (.int .i64) r2]) [])) := fun K call s => by cases s <;> kernel_rfl
theorem pl36 : Plain Tryz.prog 36 := ⟨Tryz.f36, by kernel_rfl, by kernel_rfl, by kernel_rfl⟩
theorem pl17 : Plain Tryz.prog 17 := ⟨Tryz.f17, by kernel_rfl, by kernel_rfl, by kernel_rfl⟩
theorem f16.ctok (hl : Laid G H0) (m : Nat) : CtOk G H0 (f16.ct (R := R) m) := by
  intro f ms F h
  unfold f16.ct at h
  split at h
  · exact ctk h pl20 (f20.ok hl m (ncon_ok _))
  · exact ctk h pl36 (f36.ok hl m (ncon_ok _))
  · exact ctk h pl17 (f17.ok hl m (ncon_ok _))
  · exact ctk h pl19 (f19.ok hl m (ncon_ok _))
  · cases h
theorem f16.ok (hl : Laid G H0) (m : Nat) {other : Con R} (ho : FOk Tryz.prog G H0 16 other) : FOk Tryz.prog G H0 16 (f16.pc m other) :=
  seg_ok (c := bodyOf Tryz.f16) (by kernel_rfl) (by kernel_rfl) ho (f16.ctok hl m) m (f16.seg m) (fun x y => .s0 (x.1) (x.2.1)) (fun x y K => by kernel_rfl) fun _ _ _ => rfl

noncomputable def f3.C : Cuts := ⟨(fun q => match q with
  | 8 => some { live := [], adopt := [] }
  | _ => none), (fun _ => none)⟩
inductive f3.St where
  | s0 (a0 : Int) (a1 : List UInt8) (a2 : List (List UInt8 × List UInt8))
  | s1
noncomputable def f3.todo : f3.St → List Item
  | .s0 _ _ _ => [.code (bodyOf Tryz.f3)]
  | .s1 => atBef Tryz.f3 8
noncomputable def f3.fr : f3.St → List SV
  | .s0 a0 a1 a2 => .agg [.pv (.int .i64) a0, .pv .str a1] :: .pv (.sl (.prod .str .str)) a2 :: ud 139 []
  | .s1 => dd 141 []
noncomputable def f3.hp : f3.St → List Blk
  | .s0 a0 a1 a2 => []
  | .s1 => []
noncomputable def f3.step (m : Nat) (K0 : Bool → Option R) (call : f3.St → Option R) : f3.St → Option R
  | .s0 a0 a1 a2 => 
  f4 m a1 (1000 : Int) (fun (r1 : List UInt8) =>
   f5 m a0 r1 (fun (r2 : List UInt8) (r3 : List UInt8) (r4 : Int) =>
    f6 m a0 r1 (fun (r5 : Int) =>
     bif (!(decide (r5 = (0 : Int)))) then
      f7 m (fun (r7 : Bool) =>
       bif r7 then
        f6 m a0 r1 (fun (r8 : Int) =>
         bif (decide (r4 = r8)) then
          bif (decide (r2 = ([] : List UInt8))) then
           K0 (decide (r3 = ([] : List UInt8)))
          else
           K0 false
         else
          K0 false)
       else
        K0 false)
     else
      f8 m a0 r1 (fun (r9 : List UInt8) =>
       f9 m r3 (0 : Int) (65536 : Int) (fun (r10 : List UInt8) (r11 : Int) (r12 : Int) =>
        f7 m (fun (r13 : Bool) =>
         bif (!(!r13)) then
          bif (!(!(decide (r4 = (0 : Int))))) then
           f10 m r9 (fun (r16 : List UInt8) =>
            bif (!(!(decide (r2 = r16)))) then
             bif (!(!(decide (r12 = (0 : Int))))) then
              bif (!(!(decide (r11 = (((List.length r3) : Nat) : Int))))) then
               f11 m a0 r1 (fun (r20 : List UInt8) =>
                bif (!(!(decide (r10 = r20)))) then
                 f11 m a0 r1 (fun (r22 : List UInt8) =>
                  f13 m r22 (fun (r23 : List UInt8) =>
                   f11 m a0 r1 (fun (r24 : List UInt8) =>
                    f12 m r23 r24 (fun (r25 : List UInt8) =>
                     bif (decide ((((List.length r25) : Nat) : Int) < (((List.length r3) : Nat) : Int))) then
                      call (.s1)
                     else
                      f15 m a2 (10 : Int) (fun (r26 : List (List UInt8 × List UInt8)) =>
                       let x27 : List (List UInt8 × List UInt8) := [(r2, r3)]
                       bif ((decide (((List.length r26) + (List.length x27)) ≤ LIM)) && (decide ((((List.length r26) + (List.length x27)) * 32) ≤ LIM))) then
                        f14 m (r26 ++ x27) (fun (r29 : Option ((List (List UInt8 × List UInt8) × Int))) (r30 : Int) =>
                         bif (!(decide (r30 = (0 : Int)))) then
                          K0 true
                         else
                          f16 m r29 r9 (fun (r32 : Int) (r33 : List UInt8) (r34 : Int) =>
                           f11 m a0 r1 (fun (r35 : List UInt8) =>
                            f13 m r35 (fun (r36 : List UInt8) =>
                             f11 m a0 r1 (fun (r37 : List UInt8) =>
                              f12 m r36 r37 (fun (r38 : List UInt8) =>
                               f17 m r38 (fun (r39 : Int) (r40 : List UInt8) (r41 : Int) =>
                                bif (decide (r34 = (0 : Int))) then
                                 bif ((decide (r32 = a0)) && ((decide (r33 = r1)) && true)) then
                                  bif (decide (r41 = (0 : Int))) then
                                   K0 ((decide (r39 = a0)) && ((decide (r40 = r1)) && true))
                                  else
                                   K0 false
                                 else
                                  K0 false
                                else
                                 K0 false)))))))
                       else
                        none)))))
                else
                 call (.s1))
              else
               call (.s1)
             else
              call (.s1)
            else
             call (.s1))
          else
           call (.s1)
         else
          call (.s1)))))))
  | .s1 => 
  K0 false
noncomputable def f3 (m : Nat) (a0 : Int) (a1 : List UInt8) (a2 : List (List UInt8 × List UInt8)) (K0 : Bool → Option R) : Option R := iter (f3.step m K0) m (.s0 a0 a1 a2)
noncomputable def f3.pc (m : Nat) (other : Con R) : Con R := pcon [.p (.dat (.prod (.int .i64) .str)), .p (.dat (.sl (.prod .str .str)))] [] (fun x y K => f3 m (x.1.1) (x.1.2) (x.2.1) (fun r0 => K (.pv .bool r0) [])) other
noncomputable def f3.ct (m : Nat) (f : Nat) : Option (List Mode × Con R) := match f with
  | 4 => some ([.bor, .bor], (f4.pc m ncon))
  | 5 => some ([.bor], (f5.pc m ncon))
  | 6 => some ([.bor], (f6.pc m ncon))
  | 7 => some ([], (f7.pc m ncon))
  | 8 => some ([.bor], (f8.pc m ncon))
  | 9 => some ([.bor, .bor, .bor], (f9.pc m ncon))
  | 10 => some ([.bor], (f10.pc m ncon))
  | 11 => some ([.bor], (f11.pc m ncon))
  | 13 => some ([.bor], (f13.pc m ncon))
  | 12 => some ([.bor, .bor], (f12.pc m ncon))
  | 15 => some ([.bor, .bor], (f15.pc m ncon))
  | 14 => some ([.pub], (f14.pc m ncon))
  | 16 => some ([.bor, .bor], (f16.pc m ncon))
  | 17 => some ([.bor], (f17.pc m ncon))
  | _ => none
theorem f3.seg (m : Nat) : Seg (f3.ct (R := R) m) f3.C 0 Tryz.f3 (some [some .bool]) f3.todo f3.fr f3.hp (fun K => f3.step m (fun r0 => K (.pv .bool r0) [])) := fun K call s => by cases s <;> kernel_rfl
theorem pl5 : Plain Tryz.prog 5 := ⟨Tryz.f5, by kernel_rfl, by kernel_rfl, by kernel_rfl⟩
theorem pl6 : Plain Tryz.prog 6 := ⟨Tryz.f6, by kernel_rfl, by kernel_rfl, by kernel_rfl⟩
theorem pl7 : Plain Tryz.prog 7 := ⟨Tryz.f7, by kernel_rfl, by kernel_rfl, by kernel_rfl⟩
theorem pl8 : Plain Tryz.prog 8 := ⟨Tryz.f8, by kernel_rfl, by kernel_rfl, by kernel_rfl⟩
theorem pl9 : Plain Tryz.prog 9 := ⟨Tryz.f9, by kernel_rfl, by kernel_rfl, by kernel_rfl⟩
theorem pl10 : Plain Tryz.prog 10 := ⟨Tryz.f10, by kernel_rfl, by kernel_rfl, by kernel_rfl⟩
theorem pl13 : Plain Tryz.prog 13 := ⟨Tryz.f13, by kernel_rfl, by kernel_rfl, by kernel_rfl⟩
theorem pl12 : Plain Tryz.prog 12 := ⟨Tryz.f12, by kernel_rfl, by kernel_rfl, by kernel_rfl⟩
theorem pl15 : Plain Tryz.prog 15 := ⟨Tryz.f15, by kernel_rfl, by kernel_rfl, by kernel_rfl⟩
theorem pl14 : Plain Tryz.prog 14 := ⟨Tryz.f14, by kernel_rfl, by kernel_rfl, by kernel_rfl⟩
theorem pl16 : Plain Tryz.prog 16 := ⟨Tryz.f16, by kernel_rfl, by kernel_rfl, by kernel_rfl⟩
theorem f3.ctok (hl : Laid G H0) (m : Nat) : CtOk G H0 (f3.ct (R := R) m) := by
  intro f ms F h
  unfold f3.ct at h
  split at h
  · exact ctk h pl4 (f4.ok hl m (ncon_ok _))
  · exact ctk h pl5 (f5.ok hl m (ncon_ok _))
  · exact ctk h pl6 (f6.ok hl m (ncon_ok _))
  · exact ctk h pl7 (f7.ok hl m (ncon_ok _))
  · exact ctk h pl8 (f8.ok hl m (ncon_ok _))
  · exact ctk h pl9 (f9.ok hl m (ncon_ok _))
  · exact ctk h pl10 (f10.ok hl m (ncon_ok _))
  · exact ctk h pl11 (f11.ok hl m (ncon_ok _))
  · exact ctk h pl13 (f13.ok hl m (ncon_ok _))
  · exact ctk h pl12 (f12.ok hl m (ncon_ok _))
  · exact ctk h pl15 (f15.ok hl m (ncon_ok _))
  · exact ctk h pl14 (f14.ok hl m (ncon_ok _))
  · exact ctk h pl16 (f16.ok hl m (ncon_ok _))
  · exact ctk h pl17 (f17.ok hl m (ncon_ok _))
  · cases h
theorem f3.ok (hl : Laid G H0) (m : Nat) {other : Con R} (ho : FOk Tryz.prog G H0 3 other) : FOk Tryz.prog G H0 3 (f3.pc m other) :=
  seg_ok (c := bodyOf Tryz.f3) (by kernel_rfl) (by kernel_rfl) ho (f3.ctok hl m) m (f3.seg m) (fun x y => .s0 (x.1.1) (x.1.2) (x.2.1)) (fun x y K => by kernel_rfl) fun _ _ _ => rfl

end Go.AM
