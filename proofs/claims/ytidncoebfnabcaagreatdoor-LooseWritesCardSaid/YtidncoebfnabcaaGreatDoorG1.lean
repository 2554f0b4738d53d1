/- The same, on. -/
import Derived.Test.YtidncoebfnabcaaGreatDoorG0
set_option linter.unusedVariables false
set_option maxRecDepth 100000
namespace Go.AM
open Go.Proofs
variable {R : Type} {G : Nat} {H0 : Array Obj}
noncomputable def f52.C : Cuts := ⟨(fun q => match q with
  | _ => none), (fun _ => none)⟩
inductive f52.St where
  | s0 (a0 : Int) (a1 : List Bool) (a2 : Int) (a3 : Int) (a4 : Int)
noncomputable def f52.todo : f52.St → List Item
  | .s0 _ _ _ _ _ => [.code (bodyOf Tryz.f52)]
noncomputable def f52.fr : f52.St → List SV
  | .s0 a0 a1 a2 a3 a4 => .ptr 0 0 :: .pv (.int .i64) a0 :: ud 11 []
noncomputable def f52.hp : f52.St → List Blk
  | .s0 a0 a1 a2 a3 a4 => [.box [.pv (.sl .bool) a1, .pv (.int .i64) a2, .nils, .pv (.int .i64) a3, .pv (.int .i64) a4] 76]
noncomputable def f52.step (m : Nat) (K0 : List Bool → Int → Int → Int → Option R) (call : f52.St → Option R) : f52.St → Option R
  | .s0 a0 a1 a2 a3 a4 => 
  bif (decide (a4 = (0 : Int))) then
   K0 a1 a2 a3 a0
  else
   K0 a1 a2 a3 a4
noncomputable def f52 (m : Nat) (a0 : Int) (a1 : List Bool) (a2 : Int) (a3 : Int) (a4 : Int) (K0 : List Bool → Int → Int → Int → Option R) : Option R := iter (f52.step m K0) m (.s0 a0 a1 a2 a3 a4)
noncomputable def f52.pc (m : Nat) (other : Con R) : Con R := pcon [.p (.ptr 0 0), .p (.dat (.int .i64))] [.box [.dat (.sl .bool), .dat (.int .i64), .nils, .dat (.int .i64), .dat (.int .i64)] 76] (fun x y K => f52 m (x.2.1) (y.1.1) (y.1.2.1) (y.1.2.2.2.1) (y.1.2.2.2.2.1) (fun r0 r1 r2 r3 => K (.tup []) [.box [.pv (.sl .bool) r0, .pv (.int .i64) r1, .nils, .pv (.int .i64) r2, .pv (.int .i64) r3] 76])) other
noncomputable def f52.ct (m : Nat) (f : Nat) : Option (List Mode × Con R) := match f with
  | _ => none
theorem f52.seg (m : Nat) : Seg (f52.ct (R := R) m) f52.C 1 Tryz.f52 (some []) f52.todo f52.fr f52.hp (fun K => f52.step m (fun r0 r1 r2 r3 => K (.tup []) [.box [.pv (.sl .bool) r0, .pv (.int .i64) r1, .nils, .pv (.int .i64) r2, .pv (.int .i64) r3] 76])) := fun K call s => by cases s <;> kernel_rfl
theorem f52.ctok (hl : Laid G H0) (m : Nat) : CtOk G H0 (f52.ct (R := R) m) := fun f ms F h => nomatch h
theorem f52.ok (hl : Laid G H0) (m : Nat) {other : Con R} (ho : FOk Tryz.prog G H0 52 other) : FOk Tryz.prog G H0 52 (f52.pc m other) :=
  seg_ok (c := bodyOf Tryz.f52) (by kernel_rfl) (by kernel_rfl) ho (f52.ctok hl m) m (f52.seg m) (fun x y => .s0 (x.2.1) (y.1.1) (y.1.2.1) (y.1.2.2.2.1) (y.1.2.2.2.2.1)) (fun x y K => by kernel_rfl) fun _ _ _ => rfl

noncomputable def f90.C : Cuts := ⟨(fun q => match q with
  | 3 => some { live := [0, 3, 4], adopt := [] }
  | _ => none), (fun _ => none)⟩
inductive f90.St where
  | s0 (a0 : List Bool)
  | s1 (a0 : List Bool) (a1 : Int) (a2 : Int)
noncomputable def f90.todo : f90.St → List Item
  | .s0 _ => [.code (bodyOf Tryz.f90)]
  | .s1 _ _ _ => atBef Tryz.f90 3
noncomputable def f90.fr : f90.St → List SV
  | .s0 a0 => .pv (.sl .bool) a0 :: ud 20 []
  | .s1 a0 a1 a2 => .pv (.sl .bool) a0 :: .dead :: .dead :: .pv (.int .u32) a1 :: .pv (.int .i64) a2 :: dd 16 []
noncomputable def f90.hp : f90.St → List Blk
  | .s0 a0 => []
  | .s1 a0 a1 a2 => []
noncomputable def f90.step (m : Nat) (K0 : Int → Option R) (call : f90.St → Option R) : f90.St → Option R
  | .s0 a0 => 
  call (.s1 a0 (0 : Int) (IntKind.wrap .i64 ((((List.length a0) : Nat) : Int) - (1 : Int))))
  | .s1 a0 a1 a2 => 
  bif (decide ((0 : Int) ≤ a2)) then
   let x1 : Int := IntKind.wrap .u32 ((2 : Int) * a1)
   bif (inB a2 (List.length a0)) then
    bif (List.getD a0 (Int.toNat a2) false) then
     call (.s1 a0 (IntKind.wrap .u32 (x1 + (1 : Int))) (IntKind.wrap .i64 (a2 - (1 : Int))))
    else
     call (.s1 a0 x1 (IntKind.wrap .i64 (a2 - (1 : Int))))
   else
    none
  else
   K0 a1
noncomputable def f90 (m : Nat) (a0 : List Bool) (K0 : Int → Option R) : Option R := iter (f90.step m K0) m (.s0 a0)
noncomputable def f90.pc (m : Nat) (other : Con R) : Con R := pcon [.p (.dat (.sl .bool))] [] (fun x y K => f90 m (x.1) (fun r0 => K (.pv (.int .u32) r0) [])) other
noncomputable def f90.ct (m : Nat) (f : Nat) : Option (List Mode × Con R) := match f with
  | _ => none
theorem f90.seg (m : Nat) : Seg (f90.ct (R := R) m) f90.C 0 Tryz.f90 (some [some (.int .u32)]) f90.todo f90.fr f90.hp (fun K => f90.step m (fun r0 => K (.pv (.int .u32) r0) [])) := fun K call s => by cases s <;> kernel_rfl
theorem f90.ctok (hl : Laid G H0) (m : Nat) : CtOk G H0 (f90.ct (R := R) m) := fun f ms F h => nomatch h
theorem f90.ok (hl : Laid G H0) (m : Nat) {other : Con R} (ho : FOk Tryz.prog G H0 90 other) : FOk Tryz.prog G H0 90 (f90.pc m other) :=
  seg_ok (c := bodyOf Tryz.f90) (by kernel_rfl) (by kernel_rfl) ho (f90.ctok hl m) m (f90.seg m) (fun x y => .s0 (x.1)) (fun x y K => by kernel_rfl) fun _ _ _ => rfl

noncomputable def f53.C : Cuts := ⟨(fun q => match q with
  | _ => none), (fun _ => none)⟩
inductive f53.St where
  | s0 (a0 : Int) (a1 : List Bool) (a2 : Int) (a3 : Int) (a4 : Int)
noncomputable def f53.todo : f53.St → List Item
  | .s0 _ _ _ _ _ => [.code (bodyOf Tryz.f53)]
noncomputable def f53.fr : f53.St → List SV
  | .s0 a0 a1 a2 a3 a4 => .ptr 0 0 :: .pv (.int .i64) a0 :: ud 49 []
noncomputable def f53.hp : f53.St → List Blk
  | .s0 a0 a1 a2 a3 a4 => [.box [.pv (.sl .bool) a1, .pv (.int .i64) a2, .nils, .pv (.int .i64) a3, .pv (.int .i64) a4] 76]
noncomputable def f53.step (m : Nat) (K0 : Int → List Bool → Int → Int → Int → Option R) (call : f53.St → Option R) : f53.St → Option R
  | .s0 a0 a1 a2 a3 a4 => 
  bif (!(decide (a4 = (0 : Int)))) then
   K0 (0 : Int) a1 a2 a3 a4
  else
   bif (decide ((((List.length a1) : Nat) : Int) < (IntKind.wrap .i64 (a2 + a0)))) then
    f52 m (6 : Int) a1 a2 a3 a4 (fun (r3 : List Bool) (r4 : Int) (r5 : Int) (r6 : Int) =>
     K0 (0 : Int) r3 r4 r5 r6)
   else
    let x7 : Int := IntKind.wrap .i64 (a2 + a0)
    bif (leB x7 (List.length a1)) then
     bif (leB a2 (Int.toNat x7)) then
      f90 m (List.drop (Int.toNat a2) (List.take (Int.toNat x7) a1)) (fun (r9 : Int) =>
       K0 (IntKind.wrap .i64 r9) a1 (IntKind.wrap .i64 (a2 + a0)) a3 a4)
     else
      none
    else
     none
noncomputable def f53 (m : Nat) (a0 : Int) (a1 : List Bool) (a2 : Int) (a3 : Int) (a4 : Int) (K0 : Int → List Bool → Int → Int → Int → Option R) : Option R := iter (f53.step m K0) m (.s0 a0 a1 a2 a3 a4)
noncomputable def f53.pc (m : Nat) (other : Con R) : Con R := pcon [.p (.ptr 0 0), .p (.dat (.int .i64))] [.box [.dat (.sl .bool), .dat (.int .i64), .nils, .dat (.int .i64), .dat (.int .i64)] 76] (fun x y K => f53 m (x.2.1) (y.1.1) (y.1.2.1) (y.1.2.2.2.1) (y.1.2.2.2.2.1) (fun r0 r1 r2 r3 r4 => K (.pv (.int .i64) r0) [.box [.pv (.sl .bool) r1, .pv (.int .i64) r2, .nils, .pv (.int .i64) r3, .pv (.int .i64) r4] 76])) other
noncomputable def f53.ct (m : Nat) (f : Nat) : Option (List Mode × Con R) := match f with
  | 52 => some ([.own, .bor], (f52.pc m ncon))
  | 90 => some ([.bor], (f90.pc m ncon))
  | _ => none
theorem f53.seg (m : Nat) : Seg (f53.ct (R := R) m) f53.C 1 Tryz.f53 (some [some (.int .i64)]) f53.todo f53.fr f53.hp (fun K => f53.step m (fun r0 r1 r2 r3 r4 => K (.pv (.int .i64) r0) [.box [.pv (.sl .bool) r1, .pv (.int .i64) r2, .nils, .pv (.int .i64) r3, .pv (.int .i64) r4] 76])) := fun K call s => by cases s <;> kernel_rfl
theorem pl52 : Plain Tryz.prog 52 := ⟨Tryz.f52, by kernel_rfl, by kernel_rfl, by kernel_rfl⟩
theorem pl90 : Plain Tryz.prog 90 := ⟨Tryz.f90, by kernel_rfl, by kernel_rfl, by kernel_rfl⟩
theorem f53.ctok (hl : Laid G H0) (m : Nat) : CtOk G H0 (f53.ct (R := R) m) := by
  intro f ms F h
  unfold f53.ct at h
  split at h
  · exact ctk h pl52 (f52.ok hl m (ncon_ok _))
  · exact ctk h pl90 (f90.ok hl m (ncon_ok _))
  · cases h
theorem f53.ok (hl : Laid G H0) (m : Nat) {other : Con R} (ho : FOk Tryz.prog G H0 53 other) : FOk Tryz.prog G H0 53 (f53.pc m other) :=
  seg_ok (c := bodyOf Tryz.f53) (by kernel_rfl) (by kernel_rfl) ho (f53.ctok hl m) m (f53.seg m) (fun x y => .s0 (x.2.1) (y.1.1) (y.1.2.1) (y.1.2.2.2.1) (y.1.2.2.2.2.1)) (fun x y K => by kernel_rfl) fun _ _ _ => rfl

noncomputable def f58.C : Cuts := ⟨(fun q => match q with
  | _ => none), (fun _ => none)⟩
inductive f58.St where
  | s0 (a0 : Int)
noncomputable def f58.todo : f58.St → List Item
  | .s0 _ => [.code (bodyOf Tryz.f58)]
noncomputable def f58.fr : f58.St → List SV
  | .s0 a0 => .pv (.int .i64) a0 :: ud 6 []
noncomputable def f58.hp : f58.St → List Blk
  | .s0 a0 => []
noncomputable def f58.step (m : Nat) (K0 : Int → Option R) (call : f58.St → Option R) : f58.St → Option R
  | .s0 a0 => 
  K0 (IntKind.wrap .i64 ((IntKind.wrap .i64 (Int.tdiv (IntKind.wrap .i64 (a0 + (7 : Int))) (8 : Int))) * (8 : Int)))
noncomputable def f58 (m : Nat) (a0 : Int) (K0 : Int → Option R) : Option R := iter (f58.step m K0) m (.s0 a0)
noncomputable def f58.pc (m : Nat) (other : Con R) : Con R := pcon [.p (.dat (.int .i64))] [] (fun x y K => f58 m (x.1) (fun r0 => K (.pv (.int .i64) r0) [])) other
noncomputable def f58.ct (m : Nat) (f : Nat) : Option (List Mode × Con R) := match f with
  | _ => none
theorem f58.seg (m : Nat) : Seg (f58.ct (R := R) m) f58.C 0 Tryz.f58 (some [some (.int .i64)]) f58.todo f58.fr f58.hp (fun K => f58.step m (fun r0 => K (.pv (.int .i64) r0) [])) := fun K call s => by cases s <;> kernel_rfl
theorem f58.ctok (hl : Laid G H0) (m : Nat) : CtOk G H0 (f58.ct (R := R) m) := fun f ms F h => nomatch h
theorem f58.ok (hl : Laid G H0) (m : Nat) {other : Con R} (ho : FOk Tryz.prog G H0 58 other) : FOk Tryz.prog G H0 58 (f58.pc m other) :=
  seg_ok (c := bodyOf Tryz.f58) (by kernel_rfl) (by kernel_rfl) ho (f58.ctok hl m) m (f58.seg m) (fun x y => .s0 (x.1)) (fun x y K => by kernel_rfl) fun _ _ _ => rfl

noncomputable def f91.C : Cuts := ⟨(fun q => match q with
  | _ => none), (fun _ => none)⟩
inductive f91.St where
  | s0 (a0 : Int) (a1 : List Bool) (a2 : Int) (a3 : Int) (a4 : Int)
noncomputable def f91.todo : f91.St → List Item
  | .s0 _ _ _ _ _ => [.code (bodyOf Tryz.f91)]
noncomputable def f91.fr : f91.St → List SV
  | .s0 a0 a1 a2 a3 a4 => .ptr 0 0 :: .pv (.int .u8) a0 :: ud 36 []
noncomputable def f91.hp : f91.St → List Blk
  | .s0 a0 a1 a2 a3 a4 => [.box [.pv (.sl .bool) a1, .pv (.int .i64) a2, .nils, .pv (.int .i64) a3, .pv (.int .i64) a4] 76]
noncomputable def f91.step (m : Nat) (K0 : List Bool → Int → Int → Int → List Int → Option R) (K1 : List Bool → Int → Int → Int → Option R) (call : f91.St → Option R) : f91.St → Option R
  | .s0 a0 a1 a2 a3 a4 => 
  bif (decide (a4 = (0 : Int))) then
   bif (decide (a3 ≤ (0 : Int))) then
    f52 m (2 : Int) a1 a2 a3 a4 (fun (r1 : List Bool) (r2 : Int) (r3 : Int) (r4 : Int) =>
     bif (decide (r4 = (0 : Int))) then
      let x5 : List Int := [a0]
      bif ((decide ((List.length x5) ≤ LIM)) && (decide (((List.length x5) * 1) ≤ LIM))) then
       K0 r1 r2 r3 r4 x5
      else
       none
     else
      K1 r1 r2 r3 r4)
   else
    bif (decide (a4 = (0 : Int))) then
     let x6 : List Int := [a0]
     bif ((decide ((List.length x6) ≤ LIM)) && (decide (((List.length x6) * 1) ≤ LIM))) then
      K0 a1 a2 a3 a4 x6
     else
      none
    else
     K1 a1 a2 a3 a4
  else
   bif (decide (a4 = (0 : Int))) then
    let x7 : List Int := [a0]
    bif ((decide ((List.length x7) ≤ LIM)) && (decide (((List.length x7) * 1) ≤ LIM))) then
     K0 a1 a2 a3 a4 x7
    else
     none
   else
    K1 a1 a2 a3 a4
noncomputable def f91 (m : Nat) (a0 : Int) (a1 : List Bool) (a2 : Int) (a3 : Int) (a4 : Int) (K0 : List Bool → Int → Int → Int → List Int → Option R) (K1 : List Bool → Int → Int → Int → Option R) : Option R := iter (f91.step m K0 K1) m (.s0 a0 a1 a2 a3 a4)
noncomputable def f91.pc (m : Nat) (other : Con R) : Con R := pcon [.p (.ptr 0 0), .p (.dat (.int .u8))] [.box [.dat (.sl .bool), .dat (.int .i64), .nils, .dat (.int .i64), .dat (.int .i64)] 76] (fun x y K => f91 m (x.2.1) (y.1.1) (y.1.2.1) (y.1.2.2.2.1) (y.1.2.2.2.2.1) (fun r0 r1 r2 r3 r4 => K (.tup []) [.box [.pv (.sl .bool) r0, .pv (.int .i64) r1, .sl 1 none, .pv (.int .i64) r2, .pv (.int .i64) r3] 76, .row (.int .u8) r4 5 true]) (fun r0 r1 r2 r3 => K (.tup []) [.box [.pv (.sl .bool) r0, .pv (.int .i64) r1, .nils, .pv (.int .i64) r2, .pv (.int .i64) r3] 76])) other
noncomputable def f91.ct (m : Nat) (f : Nat) : Option (List Mode × Con R) := match f with
  | 52 => some ([.own, .bor], (f52.pc m ncon))
  | _ => none
theorem f91.seg (m : Nat) : Seg (f91.ct (R := R) m) f91.C 1 Tryz.f91 (some []) f91.todo f91.fr f91.hp (fun K => f91.step m (fun r0 r1 r2 r3 r4 => K (.tup []) [.box [.pv (.sl .bool) r0, .pv (.int .i64) r1, .sl 1 none, .pv (.int .i64) r2, .pv (.int .i64) r3] 76, .row (.int .u8) r4 5 true]) (fun r0 r1 r2 r3 => K (.tup []) [.box [.pv (.sl .bool) r0, .pv (.int .i64) r1, .nils, .pv (.int .i64) r2, .pv (.int .i64) r3] 76])) := fun K call s => by cases s <;> kernel_rfl
theorem f91.ctok (hl : Laid G H0) (m : Nat) : CtOk G H0 (f91.ct (R := R) m) := by
  intro f ms F h
  unfold f91.ct at h
  split at h
  · exact ctk h pl52 (f52.ok hl m (ncon_ok _))
  · cases h
theorem f91.ok (hl : Laid G H0) (m : Nat) {other : Con R} (ho : FOk Tryz.prog G H0 91 other) : FOk Tryz.prog G H0 91 (f91.pc m other) :=
  seg_ok (c := bodyOf Tryz.f91) (by kernel_rfl) (by kernel_rfl) ho (f91.ctok hl m) m (f91.seg m) (fun x y => .s0 (x.2.1) (y.1.1) (y.1.2.1) (y.1.2.2.2.1) (y.1.2.2.2.2.1)) (fun x y K => by kernel_rfl) fun _ _ _ => rfl

noncomputable def f52v2.C : Cuts := ⟨(fun q => match q with
  | _ => none), (fun _ => none)⟩
inductive f52v2.St where
  | s0 (a0 : Int) (a1 : List Bool) (a2 : Int) (a3 : Int) (a4 : Int) (a5 : List Int)
noncomputable def f52v2.todo : f52v2.St → List Item
  | .s0 _ _ _ _ _ _ => [.code (bodyOf Tryz.f52)]
noncomputable def f52v2.fr : f52v2.St → List SV
  | .s0 a0 a1 a2 a3 a4 a5 => .ptr 0 0 :: .pv (.int .i64) a0 :: ud 11 []
noncomputable def f52v2.hp : f52v2.St → List Blk
  | .s0 a0 a1 a2 a3 a4 a5 => [.box [.pv (.sl .bool) a1, .pv (.int .i64) a2, .sl 1 none, .pv (.int .i64) a3, .pv (.int .i64) a4] 76, .row (.int .u8) a5 5 true]
noncomputable def f52v2.step (m : Nat) (K0 : List Bool → Int → Int → Int → List Int → Option R) (call : f52v2.St → Option R) : f52v2.St → Option R
  | .s0 a0 a1 a2 a3 a4 a5 => 
  bif (decide (a4 = (0 : Int))) then
   K0 a1 a2 a3 a0 a5
  else
   K0 a1 a2 a3 a4 a5
noncomputable def f52v2 (m : Nat) (a0 : Int) (a1 : List Bool) (a2 : Int) (a3 : Int) (a4 : Int) (a5 : List Int) (K0 : List Bool → Int → Int → Int → List Int → Option R) : Option R := iter (f52v2.step m K0) m (.s0 a0 a1 a2 a3 a4 a5)
noncomputable def f52v2.pc (m : Nat) (other : Con R) : Con R := pcon [.p (.ptr 0 0), .p (.dat (.int .i64))] [.box [.dat (.sl .bool), .dat (.int .i64), .sl 1, .dat (.int .i64), .dat (.int .i64)] 76, .row (.int .u8) 5 true] (fun x y K => f52v2 m (x.2.1) (y.1.1) (y.1.2.1) (y.1.2.2.2.1) (y.1.2.2.2.2.1) (y.2.1) (fun r0 r1 r2 r3 r4 => K (.tup []) [.box [.pv (.sl .bool) r0, .pv (.int .i64) r1, .sl 1 none, .pv (.int .i64) r2, .pv (.int .i64) r3] 76, .row (.int .u8) r4 5 true])) other
noncomputable def f52v2.ct (m : Nat) (f : Nat) : Option (List Mode × Con R) := match f with
  | _ => none
theorem f52v2.seg (m : Nat) : Seg (f52v2.ct (R := R) m) f52v2.C 2 Tryz.f52 (some []) f52v2.todo f52v2.fr f52v2.hp (fun K => f52v2.step m (fun r0 r1 r2 r3 r4 => K (.tup []) [.box [.pv (.sl .bool) r0, .pv (.int .i64) r1, .sl 1 none, .pv (.int .i64) r2, .pv (.int .i64) r3] 76, .row (.int .u8) r4 5 true])) := fun K call s => by cases s <;> kernel_rfl
theorem f52v2.ctok (hl : Laid G H0) (m : Nat) : CtOk G H0 (f52v2.ct (R := R) m) := fun f ms F h => nomatch h
theorem f52v2.ok (hl : Laid G H0) (m : Nat) {other : Con R} (ho : FOk Tryz.prog G H0 52 other) : FOk Tryz.prog G H0 52 (f52v2.pc m other) :=
  seg_ok (c := bodyOf Tryz.f52) (by kernel_rfl) (by kernel_rfl) ho (f52v2.ctok hl m) m (f52v2.seg m) (fun x y => .s0 (x.2.1) (y.1.1) (y.1.2.1) (y.1.2.2.2.1) (y.1.2.2.2.2.1) (y.2.1)) (fun x y K => by kernel_rfl) fun _ _ _ => rfl

noncomputable def f53v2.C : Cuts := ⟨(fun q => match q with
  | _ => none), (fun _ => none)⟩
inductive f53v2.St where
  | s0 (a0 : Int) (a1 : List Bool) (a2 : Int) (a3 : Int) (a4 : Int) (a5 : List Int)
noncomputable def f53v2.todo : f53v2.St → List Item
  | .s0 _ _ _ _ _ _ => [.code (bodyOf Tryz.f53)]
noncomputable def f53v2.fr : f53v2.St → List SV
  | .s0 a0 a1 a2 a3 a4 a5 => .ptr 0 0 :: .pv (.int .i64) a0 :: ud 49 []
noncomputable def f53v2.hp : f53v2.St → List Blk
  | .s0 a0 a1 a2 a3 a4 a5 => [.box [.pv (.sl .bool) a1, .pv (.int .i64) a2, .sl 1 none, .pv (.int .i64) a3, .pv (.int .i64) a4] 76, .row (.int .u8) a5 5 true]
noncomputable def f53v2.step (m : Nat) (K0 : Int → List Bool → Int → Int → Int → List Int → Option R) (call : f53v2.St → Option R) : f53v2.St → Option R
  | .s0 a0 a1 a2 a3 a4 a5 => 
  bif (!(decide (a4 = (0 : Int)))) then
   K0 (0 : Int) a1 a2 a3 a4 a5
  else
   bif (decide ((((List.length a1) : Nat) : Int) < (IntKind.wrap .i64 (a2 + a0)))) then
    f52v2 m (6 : Int) a1 a2 a3 a4 a5 (fun (r3 : List Bool) (r4 : Int) (r5 : Int) (r6 : Int) (r7 : List Int) =>
     K0 (0 : Int) r3 r4 r5 r6 r7)
   else
    let x8 : Int := IntKind.wrap .i64 (a2 + a0)
    bif (leB x8 (List.length a1)) then
     bif (leB a2 (Int.toNat x8)) then
      f90 m (List.drop (Int.toNat a2) (List.take (Int.toNat x8) a1)) (fun (r10 : Int) =>
       K0 (IntKind.wrap .i64 r10) a1 (IntKind.wrap .i64 (a2 + a0)) a3 a4 a5)
     else
      none
    else
     none
noncomputable def f53v2 (m : Nat) (a0 : Int) (a1 : List Bool) (a2 : Int) (a3 : Int) (a4 : Int) (a5 : List Int) (K0 : Int → List Bool → Int → Int → Int → List Int → Option R) : Option R := iter (f53v2.step m K0) m (.s0 a0 a1 a2 a3 a4 a5)
noncomputable def f53v2.pc (m : Nat) (other : Con R) : Con R := pcon [.p (.ptr 0 0), .p (.dat (.int .i64))] [.box [.dat (.sl .bool), .dat (.int .i64), .sl 1, .dat (.int .i64), .dat (.int .i64)] 76, .row (.int .u8) 5 true] (fun x y K => f53v2 m (x.2.1) (y.1.1) (y.1.2.1) (y.1.2.2.2.1) (y.1.2.2.2.2.1) (y.2.1) (fun r0 r1 r2 r3 r4 r5 => K (.pv (.int .i64) r0) [.box [.pv (.sl .bool) r1, .pv (.int .i64) r2, .sl 1 none, .pv (.int .i64) r3, .pv (.int .i64) r4] 76, .row (.int .u8) r5 5 true])) other
noncomputable def f53v2.ct (m : Nat) (f : Nat) : Option (List Mode × Con R) := match f with
  | 52 => some ([.own, .bor], (f52v2.pc m ncon))
  | 90 => some ([.bor], (f90.pc m ncon))
  | _ => none
theorem f53v2.seg (m : Nat) : Seg (f53v2.ct (R := R) m) f53v2.C 2 Tryz.f53 (some [some (.int .i64)]) f53v2.todo f53v2.fr f53v2.hp (fun K => f53v2.step m (fun r0 r1 r2 r3 r4 r5 => K (.pv (.int .i64) r0) [.box [.pv (.sl .bool) r1, .pv (.int .i64) r2, .sl 1 none, .pv (.int .i64) r3, .pv (.int .i64) r4] 76, .row (.int .u8) r5 5 true])) := fun K call s => by cases s <;> kernel_rfl
theorem f53v2.ctok (hl : Laid G H0) (m : Nat) : CtOk G H0 (f53v2.ct (R := R) m) := by
  intro f ms F h
  unfold f53v2.ct at h
  split at h
  · exact ctk h pl52 (f52v2.ok hl m (ncon_ok _))
  · exact ctk h pl90 (f90.ok hl m (ncon_ok _))
  · cases h
theorem f53v2.ok (hl : Laid G H0) (m : Nat) {other : Con R} (ho : FOk Tryz.prog G H0 53 other) : FOk Tryz.prog G H0 53 (f53v2.pc m other) :=
  seg_ok (c := bodyOf Tryz.f53) (by kernel_rfl) (by kernel_rfl) ho (f53v2.ctok hl m) m (f53v2.seg m) (fun x y => .s0 (x.2.1) (y.1.1) (y.1.2.1) (y.1.2.2.2.1) (y.1.2.2.2.2.1) (y.2.1)) (fun x y K => by kernel_rfl) fun _ _ _ => rfl

noncomputable def f91v2.C : Cuts := ⟨(fun q => match q with
  | _ => none), (fun _ => none)⟩
inductive f91v2.St where
  | s0 (a0 : Int) (a1 : List Bool) (a2 : Int) (a3 : Int) (a4 : Int) (a5 : List Int)
noncomputable def f91v2.todo : f91v2.St → List Item
  | .s0 _ _ _ _ _ _ => [.code (bodyOf Tryz.f91)]
noncomputable def f91v2.fr : f91v2.St → List SV
  | .s0 a0 a1 a2 a3 a4 a5 => .ptr 0 0 :: .pv (.int .u8) a0 :: ud 36 []
noncomputable def f91v2.hp : f91v2.St → List Blk
  | .s0 a0 a1 a2 a3 a4 a5 => [.box [.pv (.sl .bool) a1, .pv (.int .i64) a2, .sl 1 none, .pv (.int .i64) a3, .pv (.int .i64) a4] 76, .row (.int .u8) a5 5 true]
noncomputable def f91v2.step (m : Nat) (K0 : List Bool → Int → Int → Int → List Int → Option R) (K1 : List Bool → Int → Int → Int → List Int → Option R) (call : f91v2.St → Option R) : f91v2.St → Option R
  | .s0 a0 a1 a2 a3 a4 a5 => 
  bif (decide (a4 = (0 : Int))) then
   bif (decide (a3 ≤ (((List.length a5) : Nat) : Int))) then
    f52v2 m (2 : Int) a1 a2 a3 a4 a5 (fun (r1 : List Bool) (r2 : Int) (r3 : Int) (r4 : Int) (r5 : List Int) =>
     bif (decide (r4 = (0 : Int))) then
      let x6 : List Int := [a0]
      bif ((decide (((List.length r5) + (List.length x6)) ≤ LIM)) && (decide ((((List.length r5) + (List.length x6)) * 1) ≤ LIM))) then
       K0 r1 r2 r3 r4 (r5 ++ x6)
      else
       none
     else
      K1 r1 r2 r3 r4 r5)
   else
    bif (decide (a4 = (0 : Int))) then
     let x8 : List Int := [a0]
     bif ((decide (((List.length a5) + (List.length x8)) ≤ LIM)) && (decide ((((List.length a5) + (List.length x8)) * 1) ≤ LIM))) then
      K0 a1 a2 a3 a4 (a5 ++ x8)
     else
      none
    else
     K1 a1 a2 a3 a4 a5
  else
   bif (decide (a4 = (0 : Int))) then
    let x10 : List Int := [a0]
    bif ((decide (((List.length a5) + (List.length x10)) ≤ LIM)) && (decide ((((List.length a5) + (List.length x10)) * 1) ≤ LIM))) then
     K0 a1 a2 a3 a4 (a5 ++ x10)
    else
     none
   else
    K1 a1 a2 a3 a4 a5
noncomputable def f91v2 (m : Nat) (a0 : Int) (a1 : List Bool) (a2 : Int) (a3 : Int) (a4 : Int) (a5 : List Int) (K0 : List Bool → Int → Int → Int → List Int → Option R) (K1 : List Bool → Int → Int → Int → List Int → Option R) : Option R := iter (f91v2.step m K0 K1) m (.s0 a0 a1 a2 a3 a4 a5)
noncomputable def f91v2.pc (m : Nat) (other : Con R) : Con R := pcon [.p (.ptr 0 0), .p (.dat (.int .u8))] [.box [.dat (.sl .bool), .dat (.int .i64), .sl 1, .dat (.int .i64), .dat (.int .i64)] 76, .row (.int .u8) 5 true] (fun x y K => f91v2 m (x.2.1) (y.1.1) (y.1.2.1) (y.1.2.2.2.1) (y.1.2.2.2.2.1) (y.2.1) (fun r0 r1 r2 r3 r4 => K (.tup []) [.box [.pv (.sl .bool) r0, .pv (.int .i64) r1, .sl 2 none, .pv (.int .i64) r2, .pv (.int .i64) r3] 76, .dead, .row (.int .u8) r4 5 true]) (fun r0 r1 r2 r3 r4 => K (.tup []) [.box [.pv (.sl .bool) r0, .pv (.int .i64) r1, .sl 1 none, .pv (.int .i64) r2, .pv (.int .i64) r3] 76, .row (.int .u8) r4 5 true])) other
noncomputable def f91v2.ct (m : Nat) (f : Nat) : Option (List Mode × Con R) := match f with
  | 52 => some ([.own, .bor], (f52v2.pc m ncon))
  | _ => none
theorem f91v2.seg (m : Nat) : Seg (f91v2.ct (R := R) m) f91v2.C 2 Tryz.f91 (some []) f91v2.todo f91v2.fr f91v2.hp (fun K => f91v2.step m (fun r0 r1 r2 r3 r4 => K (.tup []) [.box [.pv (.sl .bool) r0, .pv (.int .i64) r1, .sl 2 none, .pv (.int .i64) r2, .pv (.int .i64) r3] 76, .dead, .row (.int .u8) r4 5 true]) (fun r0 r1 r2 r3 r4 => K (.tup []) [.box [.pv (.sl .bool) r0, .pv (.int .i64) r1, .sl 1 none, .pv (.int .i64) r2, .pv (.int .i64) r3] 76, .row (.int .u8) r4 5 true])) := fun K call s => by cases s <;> kernel_rfl
theorem f91v2.ctok (hl : Laid G H0) (m : Nat) : CtOk G H0 (f91v2.ct (R := R) m) := by
  intro f ms F h
  unfold f91v2.ct at h
  split at h
  · exact ctk h pl52 (f52v2.ok hl m (ncon_ok _))
  · cases h
theorem f91v2.ok (hl : Laid G H0) (m : Nat) {other : Con R} (ho : FOk Tryz.prog G H0 91 other) : FOk Tryz.prog G H0 91 (f91v2.pc m other) :=
  seg_ok (c := bodyOf Tryz.f91) (by kernel_rfl) (by kernel_rfl) ho (f91v2.ctok hl m) m (f91v2.seg m) (fun x y => .s0 (x.2.1) (y.1.1) (y.1.2.1) (y.1.2.2.2.1) (y.1.2.2.2.2.1) (y.2.1)) (fun x y K => by kernel_rfl) fun _ _ _ => rfl

noncomputable def f54.C : Cuts := ⟨(fun q => match q with
  | 6 => some { live := [0, 2, 4], adopt := [(0, [2], (.int .u8), 5)] }
  | _ => none), (fun _ => none)⟩
inductive f54.St where
  | s0 (a0 : List Bool) (a1 : Int) (a2 : Int) (a3 : Int)
  | s1 (a0 : Int) (a1 : Int) (a2 : List Bool) (a3 : Int) (a4 : Int) (a5 : Int) (a6 : List Int)
noncomputable def f54.todo : f54.St → List Item
  | .s0 _ _ _ _ => [.code (bodyOf Tryz.f54)]
  | .s1 _ _ _ _ _ _ _ => atBef Tryz.f54 6
noncomputable def f54.fr : f54.St → List SV
  | .s0 a0 a1 a2 a3 => .ptr 0 0 :: ud 48 []
  | .s1 a0 a1 a2 a3 a4 a5 a6 => .ptr 0 0 :: .dead :: .pv (.int .i64) a0 :: .dead :: .pv (.int .i64) a1 :: dd 44 []
noncomputable def f54.hp : f54.St → List Blk
  | .s0 a0 a1 a2 a3 => [.box [.pv (.sl .bool) a0, .pv (.int .i64) a1, .nils, .pv (.int .i64) a2, .pv (.int .i64) a3] 76]
  | .s1 a0 a1 a2 a3 a4 a5 a6 => [.box [.pv (.sl .bool) a2, .pv (.int .i64) a3, .sl 1 none, .pv (.int .i64) a4, .pv (.int .i64) a5] 76, .row (.int .u8) a6 5 true]
noncomputable def f54.step (m : Nat) (K0 : List Bool → Int → Int → Int → List Int → Option R) (call : f54.St → Option R) : f54.St → Option R
  | .s0 a0 a1 a2 a3 => 
  f58 m a1 (fun (r1 : Int) =>
   f53 m (16 : Int) a0 r1 a2 a3 (fun (r2 : Int) (r3 : List Bool) (r4 : Int) (r5 : Int) (r6 : Int) =>
    f53 m (16 : Int) r3 r4 r5 r6 (fun (r7 : Int) (r8 : List Bool) (r9 : Int) (r10 : Int) (r11 : Int) =>
     bif (decide (r11 = (0 : Int))) then
      bif (!(decide ((IntKind.wrap .i64 (r2 + r7)) = (65535 : Int)))) then
       f52 m (3 : Int) r8 r9 r10 r11 (fun (r14 : List Bool) (r15 : Int) (r16 : Int) (r17 : Int) =>
        call (.s1 r2 (0 : Int) r14 r15 r16 r17 ([] : List Int)))
      else
       call (.s1 r2 (0 : Int) r8 r9 r10 r11 ([] : List Int))
     else
      call (.s1 r2 (0 : Int) r8 r9 r10 r11 ([] : List Int)))))
  | .s1 a0 a1 a2 a3 a4 a5 a6 => 
  bif (decide (a1 < a0)) then
   bif (decide (a5 = (0 : Int))) then
    f53v2 m (8 : Int) a2 a3 a4 a5 a6 (fun (r1 : Int) (r2 : List Bool) (r3 : Int) (r4 : Int) (r5 : Int) (r6 : List Int) =>
     f91v2 m (IntKind.wrap .u8 r1) r2 r3 r4 r5 r6 (fun (r8 : List Bool) (r9 : Int) (r10 : Int) (r11 : Int) (r12 : List Int) =>
      call (.s1 a0 (IntKind.wrap .i64 (a1 + (1 : Int))) r8 r9 r10 r11 r12)) (fun (r14 : List Bool) (r15 : Int) (r16 : Int) (r17 : Int) (r18 : List Int) =>
      call (.s1 a0 (IntKind.wrap .i64 (a1 + (1 : Int))) r14 r15 r16 r17 r18)))
   else
    K0 a2 a3 a4 a5 a6
  else
   K0 a2 a3 a4 a5 a6
noncomputable def f54 (m : Nat) (a0 : List Bool) (a1 : Int) (a2 : Int) (a3 : Int) (K0 : List Bool → Int → Int → Int → List Int → Option R) : Option R := iter (f54.step m K0) m (.s0 a0 a1 a2 a3)
noncomputable def f54.pc (m : Nat) (other : Con R) : Con R := pcon [.p (.ptr 0 0)] [.box [.dat (.sl .bool), .dat (.int .i64), .nils, .dat (.int .i64), .dat (.int .i64)] 76] (fun x y K => f54 m (y.1.1) (y.1.2.1) (y.1.2.2.2.1) (y.1.2.2.2.2.1) (fun r0 r1 r2 r3 r4 => K (.tup []) [.box [.pv (.sl .bool) r0, .pv (.int .i64) r1, .sl 1 none, .pv (.int .i64) r2, .pv (.int .i64) r3] 76, .row (.int .u8) r4 5 true])) other
noncomputable def f54.ct (m : Nat) (f : Nat) : Option (List Mode × Con R) := match f with
  | 58 => some ([.bor], (f58.pc m ncon))
  | 53 => some ([.own, .bor], (f53.pc m (f53v2.pc m ncon)))
  | 52 => some ([.own, .bor], (f52.pc m ncon))
  | 91 => some ([.own, .bor], (f91v2.pc m ncon))
  | _ => none
theorem f54.seg (m : Nat) : Seg (f54.ct (R := R) m) f54.C 1 Tryz.f54 (some []) f54.todo f54.fr f54.hp (fun K => f54.step m (fun r0 r1 r2 r3 r4 => K (.tup []) [.box [.pv (.sl .bool) r0, .pv (.int .i64) r1, .sl 1 none, .pv (.int .i64) r2, .pv (.int .i64) r3] 76, .row (.int .u8) r4 5 true])) := fun K call s => by cases s <;> kernel_rfl
theorem pl58 : Plain Tryz.prog 58 := ⟨Tryz.f58, by kernel_rfl, by kernel_rfl, by kernel_rfl⟩
theorem pl53 : Plain Tryz.prog 53 := ⟨Tryz.f53, by kernel_rfl, by kernel_rfl, by kernel_rfl⟩
theorem pl91 : Plain Tryz.prog 91 := ⟨Tryz.f91, by kernel_rfl, by kernel_rfl, by kernel_rfl⟩
theorem f54.ctok (hl : Laid G H0) (m : Nat) : CtOk G H0 (f54.ct (R := R) m) := by
  intro f ms F h
  unfold f54.ct at h
  split at h
  · exact ctk h pl58 (f58.ok hl m (ncon_ok _))
  · exact ctk h pl53 (f53.ok hl m (f53v2.ok hl m (ncon_ok _)))
  · exact ctk h pl52 (f52.ok hl m (ncon_ok _))
  · exact ctk h pl91 (f91v2.ok hl m (ncon_ok _))
  · cases h
theorem f54.ok (hl : Laid G H0) (m : Nat) {other : Con R} (ho : FOk Tryz.prog G H0 54 other) : FOk Tryz.prog G H0 54 (f54.pc m other) :=
  seg_ok (c := bodyOf Tryz.f54) (by kernel_rfl) (by kernel_rfl) ho (f54.ctok hl m) m (f54.seg m) (fun x y => .s0 (y.1.1) (y.1.2.1) (y.1.2.2.2.1) (y.1.2.2.2.2.1)) (fun x y K => by kernel_rfl) fun _ _ _ => rfl

noncomputable def f54v2.C : Cuts := ⟨(fun q => match q with
  | 6 => some { live := [0, 2, 4], adopt := [] }
  | _ => none), (fun _ => none)⟩
inductive f54v2.St where
  | s0 (a0 : List Bool) (a1 : Int) (a2 : Int) (a3 : Int) (a4 : List Int)
  | s1 (a0 : Int) (a1 : Int) (a2 : List Bool) (a3 : Int) (a4 : Int) (a5 : Int) (a6 : List Int)
  | s2 (a0 : Int) (a1 : Int) (a2 : List Bool) (a3 : Int) (a4 : Int) (a5 : Int) (a6 : List Int)
noncomputable def f54v2.todo : f54v2.St → List Item
  | .s0 _ _ _ _ _ => [.code (bodyOf Tryz.f54)]
  | .s1 _ _ _ _ _ _ _ => atBef Tryz.f54 6
  | .s2 _ _ _ _ _ _ _ => atBef Tryz.f54 6
noncomputable def f54v2.fr : f54v2.St → List SV
  | .s0 a0 a1 a2 a3 a4 => .ptr 0 0 :: ud 48 []
  | .s1 a0 a1 a2 a3 a4 a5 a6 => .ptr 0 0 :: .dead :: .pv (.int .i64) a0 :: .dead :: .pv (.int .i64) a1 :: dd 44 []
  | .s2 a0 a1 a2 a3 a4 a5 a6 => .ptr 0 0 :: .dead :: .pv (.int .i64) a0 :: .dead :: .pv (.int .i64) a1 :: dd 44 []
noncomputable def f54v2.hp : f54v2.St → List Blk
  | .s0 a0 a1 a2 a3 a4 => [.box [.pv (.sl .bool) a0, .pv (.int .i64) a1, .sl 1 none, .pv (.int .i64) a2, .pv (.int .i64) a3] 76, .row (.int .u8) a4 5 true]
  | .s1 a0 a1 a2 a3 a4 a5 a6 => [.box [.pv (.sl .bool) a2, .pv (.int .i64) a3, .sl 1 none, .pv (.int .i64) a4, .pv (.int .i64) a5] 76, .row (.int .u8) a6 5 true]
  | .s2 a0 a1 a2 a3 a4 a5 a6 => [.box [.pv (.sl .bool) a2, .pv (.int .i64) a3, .sl 2 none, .pv (.int .i64) a4, .pv (.int .i64) a5] 76, .dead, .row (.int .u8) a6 5 true]
noncomputable def f54v2.step (m : Nat) (K0 : List Bool → Int → Int → Int → List Int → Option R) (K1 : List Bool → Int → Int → Int → List Int → Option R) (call : f54v2.St → Option R) : f54v2.St → Option R
  | .s0 a0 a1 a2 a3 a4 => 
  f58 m a1 (fun (r1 : Int) =>
   f53v2 m (16 : Int) a0 r1 a2 a3 a4 (fun (r2 : Int) (r3 : List Bool) (r4 : Int) (r5 : Int) (r6 : Int) (r7 : List Int) =>
    f53v2 m (16 : Int) r3 r4 r5 r6 r7 (fun (r8 : Int) (r9 : List Bool) (r10 : Int) (r11 : Int) (r12 : Int) (r13 : List Int) =>
     bif (decide (r12 = (0 : Int))) then
      bif (!(decide ((IntKind.wrap .i64 (r2 + r8)) = (65535 : Int)))) then
       f52v2 m (3 : Int) r9 r10 r11 r12 r13 (fun (r16 : List Bool) (r17 : Int) (r18 : Int) (r19 : Int) (r20 : List Int) =>
        call (.s1 r2 (0 : Int) r16 r17 r18 r19 r20))
      else
       call (.s1 r2 (0 : Int) r9 r10 r11 r12 r13)
     else
      call (.s1 r2 (0 : Int) r9 r10 r11 r12 r13))))
  | .s1 a0 a1 a2 a3 a4 a5 a6 => 
  bif (decide (a1 < a0)) then
   bif (decide (a5 = (0 : Int))) then
    f53v2 m (8 : Int) a2 a3 a4 a5 a6 (fun (r1 : Int) (r2 : List Bool) (r3 : Int) (r4 : Int) (r5 : Int) (r6 : List Int) =>
     f91v2 m (IntKind.wrap .u8 r1) r2 r3 r4 r5 r6 (fun (r8 : List Bool) (r9 : Int) (r10 : Int) (r11 : Int) (r12 : List Int) =>
      call (.s2 a0 (IntKind.wrap .i64 (a1 + (1 : Int))) r8 r9 r10 r11 r12)) (fun (r14 : List Bool) (r15 : Int) (r16 : Int) (r17 : Int) (r18 : List Int) =>
      call (.s1 a0 (IntKind.wrap .i64 (a1 + (1 : Int))) r14 r15 r16 r17 r18)))
   else
    K0 a2 a3 a4 a5 a6
  else
   K0 a2 a3 a4 a5 a6
  | .s2 a0 a1 a2 a3 a4 a5 a6 => 
  bif (decide (a1 < a0)) then
   bif (decide (a5 = (0 : Int))) then
    f53v2 m (8 : Int) a2 a3 a4 a5 a6 (fun (r1 : Int) (r2 : List Bool) (r3 : Int) (r4 : Int) (r5 : Int) (r6 : List Int) =>
     f91v2 m (IntKind.wrap .u8 r1) r2 r3 r4 r5 r6 (fun (r8 : List Bool) (r9 : Int) (r10 : Int) (r11 : Int) (r12 : List Int) =>
      call (.s2 a0 (IntKind.wrap .i64 (a1 + (1 : Int))) r8 r9 r10 r11 r12)) (fun (r14 : List Bool) (r15 : Int) (r16 : Int) (r17 : Int) (r18 : List Int) =>
      call (.s2 a0 (IntKind.wrap .i64 (a1 + (1 : Int))) r14 r15 r16 r17 r18)))
   else
    K1 a2 a3 a4 a5 a6
  else
   K1 a2 a3 a4 a5 a6
noncomputable def f54v2 (m : Nat) (a0 : List Bool) (a1 : Int) (a2 : Int) (a3 : Int) (a4 : List Int) (K0 : List Bool → Int → Int → Int → List Int → Option R) (K1 : List Bool → Int → Int → Int → List Int → Option R) : Option R := iter (f54v2.step m K0 K1) m (.s0 a0 a1 a2 a3 a4)
noncomputable def f54v2.pc (m : Nat) (other : Con R) : Con R := pcon [.p (.ptr 0 0)] [.box [.dat (.sl .bool), .dat (.int .i64), .sl 1, .dat (.int .i64), .dat (.int .i64)] 76, .row (.int .u8) 5 true] (fun x y K => f54v2 m (y.1.1) (y.1.2.1) (y.1.2.2.2.1) (y.1.2.2.2.2.1) (y.2.1) (fun r0 r1 r2 r3 r4 => K (.tup []) [.box [.pv (.sl .bool) r0, .pv (.int .i64) r1, .sl 1 none, .pv (.int .i64) r2, .pv (.int .i64) r3] 76, .row (.int .u8) r4 5 true]) (fun r0 r1 r2 r3 r4 => K (.tup []) [.box [.pv (.sl .bool) r0, .pv (.int .i64) r1, .sl 2 none, .pv (.int .i64) r2, .pv (.int .i64) r3] 76, .dead, .row (.int .u8) r4 5 true])) other
noncomputable def f54v2.ct (m : Nat) (f : Nat) : Option (List Mode × Con R) := match f with
  | 58 => some ([.bor], (f58.pc m ncon))
  | 53 => some ([.own, .bor], (f53v2.pc m ncon))
  | 52 => some ([.own, .bor], (f52v2.pc m ncon))
  | 91 => some ([.own, .bor], (f91v2.pc m ncon))
  | _ => none
theorem f54v2.seg (m : Nat) : Seg (f54v2.ct (R := R) m) f54v2.C 2 Tryz.f54 (some []) f54v2.todo f54v2.fr f54v2.hp (fun K => f54v2.step m (fun r0 r1 r2 r3 r4 => K (.tup []) [.box [.pv (.sl .bool) r0, .pv (.int .i64) r1, .sl 1 none, .pv (.int .i64) r2, .pv (.int .i64) r3] 76, .row (.int .u8) r4 5 true]) (fun r0 r1 r2 r3 r4 => K (.tup []) [.box [.pv (.sl .bool) r0, .pv (.int .i64) r1, .sl 2 none, .pv (.int .i64) r2, .pv (.int .i64) r3] 76, .dead, .row (.int .u8) r4 5 true])) := fun K call s => by cases s <;> kernel_rfl
theorem f54v2.ctok (hl : Laid G H0) (m : Nat) : CtOk G H0 (f54v2.ct (R := R) m) := by
  intro f ms F h
  unfold f54v2.ct at h
  split at h
  · exact ctk h pl58 (f58.ok hl m (ncon_ok _))
  · exact ctk h pl53 (f53v2.ok hl m (ncon_ok _))
  · exact ctk h pl52 (f52v2.ok hl m (ncon_ok _))
  · exact ctk h pl91 (f91v2.ok hl m (ncon_ok _))
  · cases h
theorem f54v2.ok (hl : Laid G H0) (m : Nat) {other : Con R} (ho : FOk Tryz.prog G H0 54 other) : FOk Tryz.prog G H0 54 (f54v2.pc m other) :=
  seg_ok (c := bodyOf Tryz.f54) (by kernel_rfl) (by kernel_rfl) ho (f54v2.ctok hl m) m (f54v2.seg m) (fun x y => .s0 (y.1.1) (y.1.2.1) (y.1.2.2.2.1) (y.1.2.2.2.2.1) (y.2.1)) (fun x y K => by kernel_rfl) fun _ _ _ => rfl

noncomputable def f55.C : Cuts := ⟨(fun q => match q with
  | 3 => some { live := [2, 3, 4], adopt := [] }
  | 8 => some { live := [2, 3, 4, 5], adopt := [] }
  | 12 => some { live := [2, 3, 6], adopt := [] }
  | _ => none), (fun _ => none)⟩
inductive f55.St where
  | s0
  | s1 (a0 : Int) (a1 : List Int) (a2 : List Int)
  | s2 (a0 : Int) (a1 : Int) (a2 : List Int) (a3 : List Int)
  | s3 (a0 : Int) (a1 : List Int) (a2 : List Int)
  | s4 (a0 : Int) (a1 : List Int) (a2 : List Int)
  | s5 (a0 : Int) (a1 : List Int) (a2 : List Int)
  | s6 (a0 : Int) (a1 : Int) (a2 : List Int) (a3 : List Int)
  | s7 (a0 : Int) (a1 : List Int) (a2 : List Int)
  | s8 (a0 : Int) (a1 : List Int) (a2 : List Int)
noncomputable def f55.todo : f55.St → List Item
  | .s0 => [.code (bodyOf Tryz.f55)]
  | .s1 _ _ _ => atBef Tryz.f55 3
  | .s2 _ _ _ _ => atBef Tryz.f55 8
  | .s3 _ _ _ => atBef Tryz.f55 12
  | .s4 _ _ _ => atBef Tryz.f55 3
  | .s5 _ _ _ => atBef Tryz.f55 12
  | .s6 _ _ _ _ => atBef Tryz.f55 8
  | .s7 _ _ _ => atBef Tryz.f55 12
  | .s8 _ _ _ => atBef Tryz.f55 12
noncomputable def f55.fr : f55.St → List SV
  | .s0 => ud 38 []
  | .s1 a0 a1 a2 => .dead :: .dead :: .sl 0 none :: .sl 1 none :: .pv (.int .i64) a0 :: dd 33 []
  | .s2 a0 a1 a2 a3 => .dead :: .dead :: .sl 0 none :: .sl 1 none :: .pv (.int .i64) a0 :: .pv (.int .i64) a1 :: dd 32 []
  | .s3 a0 a1 a2 => .dead :: .dead :: .sl 0 none :: .sl 1 none :: .dead :: .dead :: .pv (.int .i64) a0 :: dd 31 []
  | .s4 a0 a1 a2 => .dead :: .dead :: .sl 0 none :: .sl 1 none :: .pv (.int .i64) a0 :: dd 33 []
  | .s5 a0 a1 a2 => .dead :: .dead :: .sl 0 none :: .sl 1 none :: .dead :: .dead :: .pv (.int .i64) a0 :: dd 31 []
  | .s6 a0 a1 a2 a3 => .dead :: .dead :: .sl 0 none :: .sl 1 none :: .pv (.int .i64) a0 :: .pv (.int .i64) a1 :: dd 32 []
  | .s7 a0 a1 a2 => .dead :: .dead :: .sl 0 none :: .sl 1 none :: .dead :: .dead :: .pv (.int .i64) a0 :: dd 31 []
  | .s8 a0 a1 a2 => .dead :: .dead :: .sl 0 none :: .sl 1 none :: .dead :: .dead :: .pv (.int .i64) a0 :: dd 31 []
noncomputable def f55.hp : f55.St → List Blk
  | .s0 => []
  | .s1 a0 a1 a2 => [.row (.int .i64) a1 3 false, .row (.int .i64) a2 3 false]
  | .s2 a0 a1 a2 a3 => [.row (.int .i64) a2 3 false, .row (.int .i64) a3 3 false]
  | .s3 a0 a1 a2 => [.row (.int .i64) a1 3 false, .row (.int .i64) a2 3 false]
  | .s4 a0 a1 a2 => [.row (.int .i64) a1 3 true, .row (.int .i64) a2 3 false]
  | .s5 a0 a1 a2 => [.row (.int .i64) a1 3 false, .row (.int .i64) a2 3 true]
  | .s6 a0 a1 a2 a3 => [.row (.int .i64) a2 3 true, .row (.int .i64) a3 3 false]
  | .s7 a0 a1 a2 => [.row (.int .i64) a1 3 true, .row (.int .i64) a2 3 false]
  | .s8 a0 a1 a2 => [.row (.int .i64) a1 3 true, .row (.int .i64) a2 3 true]
noncomputable def f55.step (m : Nat) (K0 : List Int → List Int → Option R) (call : f55.St → Option R) : f55.St → Option R
  | .s0 => 
  call (.s1 (0 : Int) ([] : List Int) ([] : List Int))
  | .s1 a0 a1 a2 => 
  bif (decide (a0 < (288 : Int))) then
   bif (decide ((144 : Int) ≤ a0)) then
    bif (decide (a0 < (256 : Int))) then
     call (.s2 a0 (9 : Int) a1 a2)
    else
     call (.s2 a0 (8 : Int) a1 a2)
   else
    call (.s2 a0 (8 : Int) a1 a2)
  else
   call (.s3 (0 : Int) a1 a2)
  | .s2 a0 a1 a2 a3 => 
  bif (decide ((256 : Int) ≤ a0)) then
   bif (decide (a0 < (280 : Int))) then
    let x1 : List Int := [(7 : Int)]
    bif ((decide (((List.length a2) + (List.length x1)) ≤ LIM)) && (decide ((((List.length a2) + (List.length x1)) * 8) ≤ LIM))) then
     call (.s4 (IntKind.wrap .i64 (a0 + (1 : Int))) (a2 ++ x1) a3)
    else
     none
   else
    let x4 : List Int := [a1]
    bif ((decide (((List.length a2) + (List.length x4)) ≤ LIM)) && (decide ((((List.length a2) + (List.length x4)) * 8) ≤ LIM))) then
     call (.s4 (IntKind.wrap .i64 (a0 + (1 : Int))) (a2 ++ x4) a3)
    else
     none
  else
   let x7 : List Int := [a1]
   bif ((decide (((List.length a2) + (List.length x7)) ≤ LIM)) && (decide ((((List.length a2) + (List.length x7)) * 8) ≤ LIM))) then
    call (.s4 (IntKind.wrap .i64 (a0 + (1 : Int))) (a2 ++ x7) a3)
   else
    none
  | .s3 a0 a1 a2 => 
  bif (decide (a0 < (32 : Int))) then
   let x1 : List Int := [(5 : Int)]
   bif ((decide (((List.length a2) + (List.length x1)) ≤ LIM)) && (decide ((((List.length a2) + (List.length x1)) * 8) ≤ LIM))) then
    call (.s5 (IntKind.wrap .i64 (a0 + (1 : Int))) a1 (a2 ++ x1))
   else
    none
  else
   K0 a1 a2
  | .s4 a0 a1 a2 => 
  bif (decide (a0 < (288 : Int))) then
   bif (decide ((144 : Int) ≤ a0)) then
    bif (decide (a0 < (256 : Int))) then
     call (.s6 a0 (9 : Int) a1 a2)
    else
     call (.s6 a0 (8 : Int) a1 a2)
   else
    call (.s6 a0 (8 : Int) a1 a2)
  else
   call (.s7 (0 : Int) a1 a2)
  | .s5 a0 a1 a2 => 
  bif (decide (a0 < (32 : Int))) then
   let x1 : List Int := [(5 : Int)]
   bif ((decide (((List.length a2) + (List.length x1)) ≤ LIM)) && (decide ((((List.length a2) + (List.length x1)) * 8) ≤ LIM))) then
    call (.s5 (IntKind.wrap .i64 (a0 + (1 : Int))) a1 (a2 ++ x1))
   else
    none
  else
   K0 a1 a2
  | .s6 a0 a1 a2 a3 => 
  bif (decide ((256 : Int) ≤ a0)) then
   bif (decide (a0 < (280 : Int))) then
    let x1 : List Int := [(7 : Int)]
    bif ((decide (((List.length a2) + (List.length x1)) ≤ LIM)) && (decide ((((List.length a2) + (List.length x1)) * 8) ≤ LIM))) then
     call (.s4 (IntKind.wrap .i64 (a0 + (1 : Int))) (a2 ++ x1) a3)
    else
     none
   else
    let x4 : List Int := [a1]
    bif ((decide (((List.length a2) + (List.length x4)) ≤ LIM)) && (decide ((((List.length a2) + (List.length x4)) * 8) ≤ LIM))) then
     call (.s4 (IntKind.wrap .i64 (a0 + (1 : Int))) (a2 ++ x4) a3)
    else
     none
  else
   let x7 : List Int := [a1]
   bif ((decide (((List.length a2) + (List.length x7)) ≤ LIM)) && (decide ((((List.length a2) + (List.length x7)) * 8) ≤ LIM))) then
    call (.s4 (IntKind.wrap .i64 (a0 + (1 : Int))) (a2 ++ x7) a3)
   else
    none
  | .s7 a0 a1 a2 => 
  bif (decide (a0 < (32 : Int))) then
   let x1 : List Int := [(5 : Int)]
   bif ((decide (((List.length a2) + (List.length x1)) ≤ LIM)) && (decide ((((List.length a2) + (List.length x1)) * 8) ≤ LIM))) then
    call (.s8 (IntKind.wrap .i64 (a0 + (1 : Int))) a1 (a2 ++ x1))
   else
    none
  else
   K0 a1 a2
  | .s8 a0 a1 a2 => 
  bif (decide (a0 < (32 : Int))) then
   let x1 : List Int := [(5 : Int)]
   bif ((decide (((List.length a2) + (List.length x1)) ≤ LIM)) && (decide ((((List.length a2) + (List.length x1)) * 8) ≤ LIM))) then
    call (.s8 (IntKind.wrap .i64 (a0 + (1 : Int))) a1 (a2 ++ x1))
   else
    none
  else
   K0 a1 a2
noncomputable def f55 (m : Nat) (K0 : List Int → List Int → Option R) : Option R := iter (f55.step m K0) m (.s0)
noncomputable def f55.pc (m : Nat) (other : Con R) : Con R := pcon [] [] (fun x y K => f55 m (fun r0 r1 => K (.tup [.pv (.sl (.int .i64)) r0, .pv (.sl (.int .i64)) r1]) [])) other
noncomputable def f55.ct (m : Nat) (f : Nat) : Option (List Mode × Con R) := match f with
  | _ => none
theorem f55.seg (m : Nat) : Seg (f55.ct (R := R) m) f55.C 0 Tryz.f55 (some [some (.sl (.int .i64)), some (.sl (.int .i64))]) f55.todo f55.fr f55.hp (fun K => f55.step m (fun r0 r1 => K (.tup [.pv (.sl (.int .i64)) r0, .pv (.sl (.int .i64)) r1]) [])) := fun K call s => by cases s <;> kernel_rfl
theorem f55.ctok (hl : Laid G H0) (m : Nat) : CtOk G H0 (f55.ct (R := R) m) := fun f ms F h => nomatch h
theorem f55.ok (hl : Laid G H0) (m : Nat) {other : Con R} (ho : FOk Tryz.prog G H0 55 other) : FOk Tryz.prog G H0 55 (f55.pc m other) :=
  seg_ok (c := bodyOf Tryz.f55) (by kernel_rfl) (by kernel_rfl) ho (f55.ctok hl m) m (f55.seg m) (fun x y => .s0) (fun x y K => by kernel_rfl) fun _ _ _ => rfl

noncomputable def f92.C : Cuts := ⟨(fun q => match q with
  | 3 => some { live := [0, 3, 13, 14], adopt := [] }
  | 8 => some { live := [0, 3, 4, 5], adopt := [] }
  | 12 => some { live := [0, 3, 4, 5, 26, 27, 28], adopt := [] }
  | 18 => some { live := [0, 3, 4, 5, 6, 8, 9, 10, 26, 27, 28], adopt := [] }
  | _ => none), (fun _ => none)⟩
inductive f92.St where
  | s0 (a0 : List Int)
  | s1 (a0 : List Int) (a1 : Int) (a2 : Int) (a3 : List (List Bool))
  | s2 (a0 : List Int) (a1 : Int) (a2 : Int) (a3 : List (List Bool))
  | s3 (a0 : List Int) (a1 : Int) (a2 : Int) (a3 : List (List Bool))
  | s4 (a0 : List Int) (a1 : Int) (a2 : Int) (a3 : List (List Bool))
  | s5 (a0 : List Int) (a1 : Int) (a2 : Int) (a3 : List Int) (a4 : Int) (a5 : Int) (a6 : List (List Bool))
  | s6 (a0 : List Int) (a1 : Int) (a2 : Int) (a3 : List Int) (a4 : Int) (a5 : Int) (a6 : List (List Bool))
  | s7 (a0 : List Int) (a1 : Int) (a2 : Int) (a3 : Int) (a4 : Int) (a5 : Int) (a6 : List Int) (a7 : Int) (a8 : Int) (a9 : List (List Bool)) (a10 : List Bool)
  | s8 (a0 : List Int) (a1 : Int) (a2 : Int) (a3 : Int) (a4 : Int) (a5 : Int) (a6 : List Int) (a7 : Int) (a8 : Int) (a9 : List (List Bool)) (a10 : List Bool)
  | s9 (a0 : List Int) (a1 : Int) (a2 : Int) (a3 : Int) (a4 : Int) (a5 : Int) (a6 : List Int) (a7 : Int) (a8 : Int) (a9 : List (List Bool)) (a10 : List Bool)
  | s10 (a0 : List Int) (a1 : Int) (a2 : Int) (a3 : Int) (a4 : Int) (a5 : Int) (a6 : List Int) (a7 : Int) (a8 : Int) (a9 : List (List Bool)) (a10 : List Bool)
noncomputable def f92.todo : f92.St → List Item
  | .s0 _ => [.code (bodyOf Tryz.f92)]
  | .s1 _ _ _ _ => atBef Tryz.f92 3
  | .s2 _ _ _ _ => atBef Tryz.f92 3
  | .s3 _ _ _ _ => atBef Tryz.f92 8
  | .s4 _ _ _ _ => atBef Tryz.f92 8
  | .s5 _ _ _ _ _ _ _ => atBef Tryz.f92 12
  | .s6 _ _ _ _ _ _ _ => atBef Tryz.f92 12
  | .s7 _ _ _ _ _ _ _ _ _ _ _ => atBef Tryz.f92 18
  | .s8 _ _ _ _ _ _ _ _ _ _ _ => atBef Tryz.f92 18
  | .s9 _ _ _ _ _ _ _ _ _ _ _ => atBef Tryz.f92 18
  | .s10 _ _ _ _ _ _ _ _ _ _ _ => atBef Tryz.f92 18
noncomputable def f92.fr : f92.St → List SV
  | .s0 a0 => .pv (.sl (.int .i64)) a0 :: ud 58 []
  | .s1 a0 a1 a2 a3 => .pv (.sl (.int .i64)) a0 :: .dead :: .dead :: .sl 0 none :: dd 9 (.pv (.int .i64) a1 :: .pv (.int .i64) a2 :: dd 44 [])
  | .s2 a0 a1 a2 a3 => .pv (.sl (.int .i64)) a0 :: .dead :: .dead :: .sl 0 none :: dd 9 (.pv (.int .i64) a1 :: .pv (.int .i64) a2 :: dd 44 [])
  | .s3 a0 a1 a2 a3 => .pv (.sl (.int .i64)) a0 :: .dead :: .dead :: .sl 0 none :: .pv (.int .i64) a1 :: .pv (.int .i64) a2 :: dd 53 []
  | .s4 a0 a1 a2 a3 => .pv (.sl (.int .i64)) a0 :: .dead :: .dead :: .sl 0 none :: .pv (.int .i64) a1 :: .pv (.int .i64) a2 :: dd 53 []
  | .s5 a0 a1 a2 a3 a4 a5 a6 => .pv (.sl (.int .i64)) a0 :: .dead :: .dead :: .sl 0 none :: .pv (.int .i64) a1 :: .pv (.int .i64) a2 :: dd 20 (.pv (.sl (.int .i64)) a3 :: .pv (.int .i64) a4 :: .pv (.int .i64) a5 :: dd 30 [])
  | .s6 a0 a1 a2 a3 a4 a5 a6 => .pv (.sl (.int .i64)) a0 :: .dead :: .dead :: .sl 0 none :: .pv (.int .i64) a1 :: .pv (.int .i64) a2 :: dd 20 (.pv (.sl (.int .i64)) a3 :: .pv (.int .i64) a4 :: .pv (.int .i64) a5 :: dd 30 [])
  | .s7 a0 a1 a2 a3 a4 a5 a6 a7 a8 a9 a10 => .pv (.sl (.int .i64)) a0 :: .dead :: .dead :: .sl 0 none :: .pv (.int .i64) a1 :: .pv (.int .i64) a2 :: .pv (.int .i64) a3 :: .dead :: .sl 1 none :: .pv (.int .i64) a4 :: .pv (.int .i64) a5 :: dd 15 (.pv (.sl (.int .i64)) a6 :: .pv (.int .i64) a7 :: .pv (.int .i64) a8 :: dd 30 [])
  | .s8 a0 a1 a2 a3 a4 a5 a6 a7 a8 a9 a10 => .pv (.sl (.int .i64)) a0 :: .dead :: .dead :: .sl 0 none :: .pv (.int .i64) a1 :: .pv (.int .i64) a2 :: .pv (.int .i64) a3 :: .dead :: .sl 1 none :: .pv (.int .i64) a4 :: .pv (.int .i64) a5 :: dd 15 (.pv (.sl (.int .i64)) a6 :: .pv (.int .i64) a7 :: .pv (.int .i64) a8 :: dd 30 [])
  | .s9 a0 a1 a2 a3 a4 a5 a6 a7 a8 a9 a10 => .pv (.sl (.int .i64)) a0 :: .dead :: .dead :: .sl 0 none :: .pv (.int .i64) a1 :: .pv (.int .i64) a2 :: .pv (.int .i64) a3 :: .dead :: .sl 1 none :: .pv (.int .i64) a4 :: .pv (.int .i64) a5 :: dd 15 (.pv (.sl (.int .i64)) a6 :: .pv (.int .i64) a7 :: .pv (.int .i64) a8 :: dd 30 [])
  | .s10 a0 a1 a2 a3 a4 a5 a6 a7 a8 a9 a10 => .pv (.sl (.int .i64)) a0 :: .dead :: .dead :: .sl 0 none :: .pv (.int .i64) a1 :: .pv (.int .i64) a2 :: .pv (.int .i64) a3 :: .dead :: .sl 1 none :: .pv (.int .i64) a4 :: .pv (.int .i64) a5 :: dd 15 (.pv (.sl (.int .i64)) a6 :: .pv (.int .i64) a7 :: .pv (.int .i64) a8 :: dd 30 [])
noncomputable def f92.hp : f92.St → List Blk
  | .s0 a0 => []
  | .s1 a0 a1 a2 a3 => [.row (.sl .bool) a3 73 false]
  | .s2 a0 a1 a2 a3 => [.row (.sl .bool) a3 73 true]
  | .s3 a0 a1 a2 a3 => [.row (.sl .bool) a3 73 false]
  | .s4 a0 a1 a2 a3 => [.row (.sl .bool) a3 73 true]
  | .s5 a0 a1 a2 a3 a4 a5 a6 => [.row (.sl .bool) a6 73 false]
  | .s6 a0 a1 a2 a3 a4 a5 a6 => [.row (.sl .bool) a6 73 true]
  | .s7 a0 a1 a2 a3 a4 a5 a6 a7 a8 a9 a10 => [.row (.sl .bool) a9 73 false, .row .bool a10 4 false]
  | .s8 a0 a1 a2 a3 a4 a5 a6 a7 a8 a9 a10 => [.row (.sl .bool) a9 73 true, .row .bool a10 4 false]
  | .s9 a0 a1 a2 a3 a4 a5 a6 a7 a8 a9 a10 => [.row (.sl .bool) a9 73 false, .row .bool a10 4 true]
  | .s10 a0 a1 a2 a3 a4 a5 a6 a7 a8 a9 a10 => [.row (.sl .bool) a9 73 true, .row .bool a10 4 true]
noncomputable def f92.step (m : Nat) (K0 : List (List Bool) → Option R) (call : f92.St → Option R) : f92.St → Option R
  | .s0 a0 => 
  call (.s1 a0 (((List.length a0) : Nat) : Int) (0 : Int) ([] : List (List Bool)))
  | .s1 a0 a1 a2 a3 => 
  bif (decide (a2 < a1)) then
   let x1 : List (List Bool) := [([] : List Bool)]
   bif ((decide (((List.length a3) + (List.length x1)) ≤ LIM)) && (decide ((((List.length a3) + (List.length x1)) * 24) ≤ LIM))) then
    call (.s2 a0 a1 (IntKind.wrap .i64 (a2 + (1 : Int))) (a3 ++ x1))
   else
    none
  else
   call (.s3 a0 (0 : Int) (1 : Int) a3)
  | .s2 a0 a1 a2 a3 => 
  bif (decide (a2 < a1)) then
   let x1 : List (List Bool) := [([] : List Bool)]
   bif ((decide (((List.length a3) + (List.length x1)) ≤ LIM)) && (decide ((((List.length a3) + (List.length x1)) * 24) ≤ LIM))) then
    call (.s2 a0 a1 (IntKind.wrap .i64 (a2 + (1 : Int))) (a3 ++ x1))
   else
    none
  else
   call (.s4 a0 (0 : Int) (1 : Int) a3)
  | .s3 a0 a1 a2 a3 => 
  bif (decide (a2 ≤ (15 : Int))) then
   call (.s5 a0 (IntKind.wrap .i64 ((2 : Int) * a1)) a2 a0 (((List.length a0) : Nat) : Int) (0 : Int) a3)
  else
   K0 a3
  | .s4 a0 a1 a2 a3 => 
  bif (decide (a2 ≤ (15 : Int))) then
   call (.s6 a0 (IntKind.wrap .i64 ((2 : Int) * a1)) a2 a0 (((List.length a0) : Nat) : Int) (0 : Int) a3)
  else
   K0 a3
  | .s5 a0 a1 a2 a3 a4 a5 a6 => 
  bif (decide (a5 < a4)) then
   bif (inB a5 (List.length a3)) then
    bif (!(decide ((List.getD a3 (Int.toNat a5) (0 : Int)) = a2))) then
     call (.s5 a0 a1 a2 a3 a4 (IntKind.wrap .i64 (a5 + (1 : Int))) a6)
    else
     call (.s7 a0 a1 a2 a5 a1 (0 : Int) a3 a4 a5 a6 ([] : List Bool))
   else
    none
  else
   call (.s3 a0 a1 (IntKind.wrap .i64 (a2 + (1 : Int))) a6)
  | .s6 a0 a1 a2 a3 a4 a5 a6 => 
  bif (decide (a5 < a4)) then
   bif (inB a5 (List.length a3)) then
    bif (!(decide ((List.getD a3 (Int.toNat a5) (0 : Int)) = a2))) then
     call (.s6 a0 a1 a2 a3 a4 (IntKind.wrap .i64 (a5 + (1 : Int))) a6)
    else
     call (.s8 a0 a1 a2 a5 a1 (0 : Int) a3 a4 a5 a6 ([] : List Bool))
   else
    none
  else
   call (.s4 a0 a1 (IntKind.wrap .i64 (a2 + (1 : Int))) a6)
  | .s7 a0 a1 a2 a3 a4 a5 a6 a7 a8 a9 a10 => 
  bif (decide (a5 < a2)) then
   let x2 : List Bool := [decide ((Int.tmod a4 (2 : Int)) = (1 : Int))]
   bif ((decide (((List.length x2) + (List.length a10)) ≤ LIM)) && (decide ((((List.length x2) + (List.length a10)) * 1) ≤ LIM))) then
    call (.s9 a0 a1 a2 a3 (IntKind.wrap .i64 (Int.tdiv a4 (2 : Int))) (IntKind.wrap .i64 (a5 + (1 : Int))) a6 a7 a8 a9 (x2 ++ a10))
   else
    none
  else
   bif (inB a3 (List.length a9)) then
    call (.s5 a0 (IntKind.wrap .i64 (a1 + (1 : Int))) a2 a6 a7 (IntKind.wrap .i64 (a8 + (1 : Int))) (List.set a9 (Int.toNat a3) a10))
   else
    none
  | .s8 a0 a1 a2 a3 a4 a5 a6 a7 a8 a9 a10 => 
  bif (decide (a5 < a2)) then
   let x2 : List Bool := [decide ((Int.tmod a4 (2 : Int)) = (1 : Int))]
   bif ((decide (((List.length x2) + (List.length a10)) ≤ LIM)) && (decide ((((List.length x2) + (List.length a10)) * 1) ≤ LIM))) then
    call (.s10 a0 a1 a2 a3 (IntKind.wrap .i64 (Int.tdiv a4 (2 : Int))) (IntKind.wrap .i64 (a5 + (1 : Int))) a6 a7 a8 a9 (x2 ++ a10))
   else
    none
  else
   bif (inB a3 (List.length a9)) then
    call (.s6 a0 (IntKind.wrap .i64 (a1 + (1 : Int))) a2 a6 a7 (IntKind.wrap .i64 (a8 + (1 : Int))) (List.set a9 (Int.toNat a3) a10))
   else
    none
  | .s9 a0 a1 a2 a3 a4 a5 a6 a7 a8 a9 a10 => 
  bif (decide (a5 < a2)) then
   let x2 : List Bool := [decide ((Int.tmod a4 (2 : Int)) = (1 : Int))]
   bif ((decide (((List.length x2) + (List.length a10)) ≤ LIM)) && (decide ((((List.length x2) + (List.length a10)) * 1) ≤ LIM))) then
    call (.s9 a0 a1 a2 a3 (IntKind.wrap .i64 (Int.tdiv a4 (2 : Int))) (IntKind.wrap .i64 (a5 + (1 : Int))) a6 a7 a8 a9 (x2 ++ a10))
   else
    none
  else
   bif (inB a3 (List.length a9)) then
    call (.s5 a0 (IntKind.wrap .i64 (a1 + (1 : Int))) a2 a6 a7 (IntKind.wrap .i64 (a8 + (1 : Int))) (List.set a9 (Int.toNat a3) a10))
   else
    none
  | .s10 a0 a1 a2 a3 a4 a5 a6 a7 a8 a9 a10 => 
  bif (decide (a5 < a2)) then
   let x2 : List Bool := [decide ((Int.tmod a4 (2 : Int)) = (1 : Int))]
   bif ((decide (((List.length x2) + (List.length a10)) ≤ LIM)) && (decide ((((List.length x2) + (List.length a10)) * 1) ≤ LIM))) then
    call (.s10 a0 a1 a2 a3 (IntKind.wrap .i64 (Int.tdiv a4 (2 : Int))) (IntKind.wrap .i64 (a5 + (1 : Int))) a6 a7 a8 a9 (x2 ++ a10))
   else
    none
  else
   bif (inB a3 (List.length a9)) then
    call (.s6 a0 (IntKind.wrap .i64 (a1 + (1 : Int))) a2 a6 a7 (IntKind.wrap .i64 (a8 + (1 : Int))) (List.set a9 (Int.toNat a3) a10))
   else
    none
noncomputable def f92 (m : Nat) (a0 : List Int) (K0 : List (List Bool) → Option R) : Option R := iter (f92.step m K0) m (.s0 a0)
noncomputable def f92.pc (m : Nat) (other : Con R) : Con R := pcon [.p (.dat (.sl (.int .i64)))] [] (fun x y K => f92 m (x.1) (fun r0 => K (.pv (.sl (.sl .bool)) r0) [])) other
noncomputable def f92.ct (m : Nat) (f : Nat) : Option (List Mode × Con R) := match f with
  | _ => none
theorem f92.seg (m : Nat) : Seg (f92.ct (R := R) m) f92.C 0 Tryz.f92 (some [some (.sl (.sl .bool))]) f92.todo f92.fr f92.hp (fun K => f92.step m (fun r0 => K (.pv (.sl (.sl .bool)) r0) [])) := fun K call s => by cases s <;> kernel_rfl
theorem f92.ctok (hl : Laid G H0) (m : Nat) : CtOk G H0 (f92.ct (R := R) m) := fun f ms F h => nomatch h
theorem f92.ok (hl : Laid G H0) (m : Nat) {other : Con R} (ho : FOk Tryz.prog G H0 92 other) : FOk Tryz.prog G H0 92 (f92.pc m other) :=
  seg_ok (c := bodyOf Tryz.f92) (by kernel_rfl) (by kernel_rfl) ho (f92.ctok hl m) m (f92.seg m) (fun x y => .s0 (x.1)) (fun x y K => by kernel_rfl) fun _ _ _ => rfl

noncomputable def f93.C : Cuts := ⟨(fun q => match q with
  | 4 => some { live := [4, 5, 6, 7], adopt := [] }
  | 9 => some { live := [4, 5, 6, 7, 8], adopt := [] }
  | 17 => some { live := [4, 5, 6, 9, 10, 11], adopt := [] }
  | _ => none), (fun _ => none)⟩
inductive f93.St where
  | s0
  | s1 (a0 : Int) (a1 : Int) (a2 : List Int) (a3 : List Int)
  | s2 (a0 : Int) (a1 : Int) (a2 : Int) (a3 : List Int) (a4 : List Int)
  | s3 (a0 : Int) (a1 : Int) (a2 : List Int) (a3 : List Int) (a4 : List Int) (a5 : List Int)
  | s4 (a0 : Int) (a1 : Int) (a2 : List Int) (a3 : List Int)
  | s5 (a0 : Int) (a1 : Int) (a2 : List Int) (a3 : List Int) (a4 : List Int) (a5 : List Int)
  | s6 (a0 : Int) (a1 : Int) (a2 : Int) (a3 : List Int) (a4 : List Int)
noncomputable def f93.todo : f93.St → List Item
  | .s0 => [.code (bodyOf Tryz.f93)]
  | .s1 _ _ _ _ => atBef Tryz.f93 4
  | .s2 _ _ _ _ _ => atBef Tryz.f93 9
  | .s3 _ _ _ _ _ _ => atBef Tryz.f93 17
  | .s4 _ _ _ _ => atBef Tryz.f93 4
  | .s5 _ _ _ _ _ _ => atBef Tryz.f93 17
  | .s6 _ _ _ _ _ => atBef Tryz.f93 9
noncomputable def f93.fr : f93.St → List SV
  | .s0 => ud 69 []
  | .s1 a0 a1 a2 a3 => dd 4 (.sl 0 none :: .sl 1 none :: .pv (.int .i64) a0 :: .pv (.int .i64) a1 :: dd 61 [])
  | .s2 a0 a1 a2 a3 a4 => dd 4 (.sl 0 none :: .sl 1 none :: .pv (.int .i64) a0 :: .pv (.int .i64) a1 :: .pv (.int .i64) a2 :: dd 60 [])
  | .s3 a0 a1 a2 a3 a4 a5 => dd 4 (.sl 0 none :: .sl 1 none :: .pv (.int .i64) a0 :: .dead :: .dead :: .sl 2 none :: .sl 3 none :: .pv (.int .i64) a1 :: dd 57 [])
  | .s4 a0 a1 a2 a3 => dd 4 (.sl 0 none :: .sl 1 none :: .pv (.int .i64) a0 :: .pv (.int .i64) a1 :: dd 61 [])
  | .s5 a0 a1 a2 a3 a4 a5 => dd 4 (.sl 0 none :: .sl 1 none :: .pv (.int .i64) a0 :: .dead :: .dead :: .sl 2 none :: .sl 3 none :: .pv (.int .i64) a1 :: dd 57 [])
  | .s6 a0 a1 a2 a3 a4 => dd 4 (.sl 0 none :: .sl 1 none :: .pv (.int .i64) a0 :: .pv (.int .i64) a1 :: .pv (.int .i64) a2 :: dd 60 [])
noncomputable def f93.hp : f93.St → List Blk
  | .s0 => []
  | .s1 a0 a1 a2 a3 => [.row (.int .i64) a2 3 false, .row (.int .i64) a3 3 false]
  | .s2 a0 a1 a2 a3 a4 => [.row (.int .i64) a3 3 false, .row (.int .i64) a4 3 false]
  | .s3 a0 a1 a2 a3 a4 a5 => [.row (.int .i64) a2 3 true, .row (.int .i64) a3 3 true, .row (.int .i64) a4 3 false, .row (.int .i64) a5 3 false]
  | .s4 a0 a1 a2 a3 => [.row (.int .i64) a2 3 true, .row (.int .i64) a3 3 true]
  | .s5 a0 a1 a2 a3 a4 a5 => [.row (.int .i64) a2 3 true, .row (.int .i64) a3 3 true, .row (.int .i64) a4 3 true, .row (.int .i64) a5 3 true]
  | .s6 a0 a1 a2 a3 a4 => [.row (.int .i64) a3 3 true, .row (.int .i64) a4 3 true]
noncomputable def f93.step (m : Nat) (K0 : List Int → List Int → List Int → List Int → Option R) (call : f93.St → Option R) : f93.St → Option R
  | .s0 => 
  call (.s1 (3 : Int) (0 : Int) ([] : List Int) ([] : List Int))
  | .s1 a0 a1 a2 a3 => 
  bif (decide (a1 < (28 : Int))) then
   bif (decide ((8 : Int) ≤ a1)) then
    call (.s2 a0 a1 (IntKind.wrap .i64 ((IntKind.wrap .i64 (Int.tdiv a1 (4 : Int))) - (1 : Int))) a2 a3)
   else
    call (.s2 a0 a1 (0 : Int) a2 a3)
  else
   let x3 : List Int := [(258 : Int)]
   bif ((decide (((List.length a2) + (List.length x3)) ≤ LIM)) && (decide ((((List.length a2) + (List.length x3)) * 8) ≤ LIM))) then
    let x5 : List Int := [(0 : Int)]
    bif ((decide (((List.length a3) + (List.length x5)) ≤ LIM)) && (decide ((((List.length a3) + (List.length x5)) * 8) ≤ LIM))) then
     call (.s3 (1 : Int) (0 : Int) (a2 ++ x3) (a3 ++ x5) ([] : List Int) ([] : List Int))
    else
     none
   else
    none
  | .s2 a0 a1 a2 a3 a4 => 
  let x1 : List Int := [a0]
  bif ((decide (((List.length a3) + (List.length x1)) ≤ LIM)) && (decide ((((List.length a3) + (List.length x1)) * 8) ≤ LIM))) then
   let x3 : List Int := [a2]
   bif ((decide (((List.length a4) + (List.length x3)) ≤ LIM)) && (decide ((((List.length a4) + (List.length x3)) * 8) ≤ LIM))) then
    bif (decide ((0 : Int) ≤ a2)) then
     call (.s4 (IntKind.wrap .i64 (a0 + (IntKind.wrap .i64 ((1 : Int) * ((2 : Int) ^ (min (Int.toNat a2) 64)))))) (IntKind.wrap .i64 (a1 + (1 : Int))) (a3 ++ x1) (a4 ++ x3))
    else
     none
   else
    none
  else
   none
  | .s3 a0 a1 a2 a3 a4 a5 => 
  bif (decide (a1 < (30 : Int))) then
   bif (decide ((4 : Int) ≤ a1)) then
    let x2 : Int := IntKind.wrap .i64 ((IntKind.wrap .i64 (Int.tdiv a1 (2 : Int))) - (1 : Int))
    let x3 : List Int := [a0]
    bif ((decide (((List.length a4) + (List.length x3)) ≤ LIM)) && (decide ((((List.length a4) + (List.length x3)) * 8) ≤ LIM))) then
     let x5 : List Int := [x2]
     bif ((decide (((List.length a5) + (List.length x5)) ≤ LIM)) && (decide ((((List.length a5) + (List.length x5)) * 8) ≤ LIM))) then
      bif (decide ((0 : Int) ≤ x2)) then
       call (.s5 (IntKind.wrap .i64 (a0 + (IntKind.wrap .i64 ((1 : Int) * ((2 : Int) ^ (min (Int.toNat x2) 64)))))) (IntKind.wrap .i64 (a1 + (1 : Int))) a2 a3 (a4 ++ x3) (a5 ++ x5))
      else
       none
     else
      none
    else
     none
   else
    let x10 : List Int := [a0]
    bif ((decide (((List.length a4) + (List.length x10)) ≤ LIM)) && (decide ((((List.length a4) + (List.length x10)) * 8) ≤ LIM))) then
     let x12 : List Int := [(0 : Int)]
     bif ((decide (((List.length a5) + (List.length x12)) ≤ LIM)) && (decide ((((List.length a5) + (List.length x12)) * 8) ≤ LIM))) then
      call (.s5 (IntKind.wrap .i64 (a0 + (1 : Int))) (IntKind.wrap .i64 (a1 + (1 : Int))) a2 a3 (a4 ++ x10) (a5 ++ x12))
     else
      none
    else
     none
  else
   K0 a2 a3 a4 a5
  | .s4 a0 a1 a2 a3 => 
  bif (decide (a1 < (28 : Int))) then
   bif (decide ((8 : Int) ≤ a1)) then
    call (.s6 a0 a1 (IntKind.wrap .i64 ((IntKind.wrap .i64 (Int.tdiv a1 (4 : Int))) - (1 : Int))) a2 a3)
   else
    call (.s6 a0 a1 (0 : Int) a2 a3)
  else
   let x3 : List Int := [(258 : Int)]
   bif ((decide (((List.length a2) + (List.length x3)) ≤ LIM)) && (decide ((((List.length a2) + (List.length x3)) * 8) ≤ LIM))) then
    let x5 : List Int := [(0 : Int)]
    bif ((decide (((List.length a3) + (List.length x5)) ≤ LIM)) && (decide ((((List.length a3) + (List.length x5)) * 8) ≤ LIM))) then
     call (.s3 (1 : Int) (0 : Int) (a2 ++ x3) (a3 ++ x5) ([] : List Int) ([] : List Int))
    else
     none
   else
    none
  | .s5 a0 a1 a2 a3 a4 a5 => 
  bif (decide (a1 < (30 : Int))) then
   bif (decide ((4 : Int) ≤ a1)) then
    let x2 : Int := IntKind.wrap .i64 ((IntKind.wrap .i64 (Int.tdiv a1 (2 : Int))) - (1 : Int))
    let x3 : List Int := [a0]
    bif ((decide (((List.length a4) + (List.length x3)) ≤ LIM)) && (decide ((((List.length a4) + (List.length x3)) * 8) ≤ LIM))) then
     let x5 : List Int := [x2]
     bif ((decide (((List.length a5) + (List.length x5)) ≤ LIM)) && (decide ((((List.length a5) + (List.length x5)) * 8) ≤ LIM))) then
      bif (decide ((0 : Int) ≤ x2)) then
       call (.s5 (IntKind.wrap .i64 (a0 + (IntKind.wrap .i64 ((1 : Int) * ((2 : Int) ^ (min (Int.toNat x2) 64)))))) (IntKind.wrap .i64 (a1 + (1 : Int))) a2 a3 (a4 ++ x3) (a5 ++ x5))
      else
       none
     else
      none
    else
     none
   else
    let x10 : List Int := [a0]
    bif ((decide (((List.length a4) + (List.length x10)) ≤ LIM)) && (decide ((((List.length a4) + (List.length x10)) * 8) ≤ LIM))) then
     let x12 : List Int := [(0 : Int)]
     bif ((decide (((List.length a5) + (List.length x12)) ≤ LIM)) && (decide ((((List.length a5) + (List.length x12)) * 8) ≤ LIM))) then
      call (.s5 (IntKind.wrap .i64 (a0 + (1 : Int))) (IntKind.wrap .i64 (a1 + (1 : Int))) a2 a3 (a4 ++ x10) (a5 ++ x12))
     else
      none
    else
     none
  else
   K0 a2 a3 a4 a5
  | .s6 a0 a1 a2 a3 a4 => 
  let x1 : List Int := [a0]
  bif ((decide (((List.length a3) + (List.length x1)) ≤ LIM)) && (decide ((((List.length a3) + (List.length x1)) * 8) ≤ LIM))) then
   let x3 : List Int := [a2]
   bif ((decide (((List.length a4) + (List.length x3)) ≤ LIM)) && (decide ((((List.length a4) + (List.length x3)) * 8) ≤ LIM))) then
    bif (decide ((0 : Int) ≤ a2)) then
     call (.s4 (IntKind.wrap .i64 (a0 + (IntKind.wrap .i64 ((1 : Int) * ((2 : Int) ^ (min (Int.toNat a2) 64)))))) (IntKind.wrap .i64 (a1 + (1 : Int))) (a3 ++ x1) (a4 ++ x3))
    else
     none
   else
    none
  else
   none
noncomputable def f93 (m : Nat) (K0 : List Int → List Int → List Int → List Int → Option R) : Option R := iter (f93.step m K0) m (.s0)
noncomputable def f93.pc (m : Nat) (other : Con R) : Con R := pcon [] [] (fun x y K => f93 m (fun r0 r1 r2 r3 => K (.tup [.pv (.sl (.int .i64)) r0, .pv (.sl (.int .i64)) r1, .pv (.sl (.int .i64)) r2, .pv (.sl (.int .i64)) r3]) [])) other
noncomputable def f93.ct (m : Nat) (f : Nat) : Option (List Mode × Con R) := match f with
  | _ => none
theorem f93.seg (m : Nat) : Seg (f93.ct (R := R) m) f93.C 0 Tryz.f93 (some [some (.sl (.int .i64)), some (.sl (.int .i64)), some (.sl (.int .i64)), some (.sl (.int .i64))]) f93.todo f93.fr f93.hp (fun K => f93.step m (fun r0 r1 r2 r3 => K (.tup [.pv (.sl (.int .i64)) r0, .pv (.sl (.int .i64)) r1, .pv (.sl (.int .i64)) r2, .pv (.sl (.int .i64)) r3]) [])) := fun K call s => by cases s <;> kernel_rfl
theorem f93.ctok (hl : Laid G H0) (m : Nat) : CtOk G H0 (f93.ct (R := R) m) := fun f ms F h => nomatch h
theorem f93.ok (hl : Laid G H0) (m : Nat) {other : Con R} (ho : FOk Tryz.prog G H0 93 other) : FOk Tryz.prog G H0 93 (f93.pc m other) :=
  seg_ok (c := bodyOf Tryz.f93) (by kernel_rfl) (by kernel_rfl) ho (f93.ctok hl m) m (f93.seg m) (fun x y => .s0) (fun x y K => by kernel_rfl) fun _ _ _ => rfl

noncomputable def f153.C : Cuts := ⟨(fun q => match q with
  | 4 => some { live := [0, 1, 12, 13], adopt := [] }
  | _ => none), (fun _ => none)⟩
inductive f153.St where
  | s0 (a0 : List Bool) (a1 : List Bool)
  | s1 (a0 : List Bool) (a1 : List Bool) (a2 : Int) (a3 : Int)
noncomputable def f153.todo : f153.St → List Item
  | .s0 _ _ => [.code (bodyOf Tryz.f153)]
  | .s1 _ _ _ _ => atBef Tryz.f153 4
noncomputable def f153.fr : f153.St → List SV
  | .s0 a0 a1 => .pv (.sl .bool) a0 :: .pv (.sl .bool) a1 :: ud 24 []
  | .s1 a0 a1 a2 a3 => .pv (.sl .bool) a0 :: .pv (.sl .bool) a1 :: dd 10 (.pv (.int .i64) a2 :: .pv (.int .i64) a3 :: dd 12 [])
noncomputable def f153.hp : f153.St → List Blk
  | .s0 a0 a1 => []
  | .s1 a0 a1 a2 a3 => []
noncomputable def f153.step (m : Nat) (K0 : Bool → Option R) (call : f153.St → Option R) : f153.St → Option R
  | .s0 a0 a1 => 
  bif (decide ((((List.length a0) : Nat) : Int) < (((List.length a1) : Nat) : Int))) then
   K0 false
  else
   call (.s1 a0 a1 (((List.length a1) : Nat) : Int) (0 : Int))
  | .s1 a0 a1 a2 a3 => 
  bif (decide (a3 < a2)) then
   bif (inB a3 (List.length a1)) then
    bif (inB a3 (List.length a0)) then
     bif (!((List.getD a1 (Int.toNat a3) false) == (List.getD a0 (Int.toNat a3) false))) then
      K0 false
     else
      call (.s1 a0 a1 a2 (IntKind.wrap .i64 (a3 + (1 : Int))))
    else
     none
   else
    none
  else
   K0 true
noncomputable def f153 (m : Nat) (a0 : List Bool) (a1 : List Bool) (K0 : Bool → Option R) : Option R := iter (f153.step m K0) m (.s0 a0 a1)
noncomputable def f153.pc (m : Nat) (other : Con R) : Con R := pcon [.p (.dat (.sl .bool)), .p (.dat (.sl .bool))] [] (fun x y K => f153 m (x.1) (x.2.1) (fun r0 => K (.pv .bool r0) [])) other
noncomputable def f153.ct (m : Nat) (f : Nat) : Option (List Mode × Con R) := match f with
  | _ => none
theorem f153.seg (m : Nat) : Seg (f153.ct (R := R) m) f153.C 0 Tryz.f153 (some [some .bool]) f153.todo f153.fr f153.hp (fun K => f153.step m (fun r0 => K (.pv .bool r0) [])) := fun K call s => by cases s <;> kernel_rfl
theorem f153.ctok (hl : Laid G H0) (m : Nat) : CtOk G H0 (f153.ct (R := R) m) := fun f ms F h => nomatch h
theorem f153.ok (hl : Laid G H0) (m : Nat) {other : Con R} (ho : FOk Tryz.prog G H0 153 other) : FOk Tryz.prog G H0 153 (f153.pc m other) :=
  seg_ok (c := bodyOf Tryz.f153) (by kernel_rfl) (by kernel_rfl) ho (f153.ctok hl m) m (f153.seg m) (fun x y => .s0 (x.1) (x.2.1)) (fun x y K => by kernel_rfl) fun _ _ _ => rfl

noncomputable def f126.C : Cuts := ⟨(fun q => match q with
  | 3 => some { live := [0, 1, 7, 12, 13, 14], adopt := [] }
  | 13 => some { live := [1, 31, 32, 33], adopt := [] }
  | _ => none), (fun _ => none)⟩
inductive f126.St where
  | s0 (a0 : List (List Bool)) (a1 : List Bool)
  | s1 (a0 : List (List Bool)) (a1 : List Bool) (a2 : Bool) (a3 : List (List Bool)) (a4 : Int) (a5 : Int)
  | s2 (a0 : List Bool) (a1 : List (List Bool)) (a2 : Int) (a3 : Int)
noncomputable def f126.todo : f126.St → List Item
  | .s0 _ _ => [.code (bodyOf Tryz.f126)]
  | .s1 _ _ _ _ _ _ => atBef Tryz.f126 3
  | .s2 _ _ _ _ => atBef Tryz.f126 13
noncomputable def f126.fr : f126.St → List SV
  | .s0 a0 a1 => .pv (.sl (.sl .bool)) a0 :: .pv (.sl .bool) a1 :: ud 46 []
  | .s1 a0 a1 a2 a3 a4 a5 => .pv (.sl (.sl .bool)) a0 :: .pv (.sl .bool) a1 :: dd 5 (.pv .bool a2 :: dd 4 (.pv (.sl (.sl .bool)) a3 :: .pv (.int .i64) a4 :: .pv (.int .i64) a5 :: dd 33 []))
  | .s2 a0 a1 a2 a3 => .dead :: .pv (.sl .bool) a0 :: dd 29 (.pv (.sl (.sl .bool)) a1 :: .pv (.int .i64) a2 :: .pv (.int .i64) a3 :: dd 14 [])
noncomputable def f126.hp : f126.St → List Blk
  | .s0 a0 a1 => []
  | .s1 a0 a1 a2 a3 a4 a5 => []
  | .s2 a0 a1 a2 a3 => []
noncomputable def f126.step (m : Nat) (K0 : Int → Int → Int → Option R) (call : f126.St → Option R) : f126.St → Option R
  | .s0 a0 a1 => 
  call (.s1 a0 a1 false a0 (((List.length a0) : Nat) : Int) (0 : Int))
  | .s1 a0 a1 a2 a3 a4 a5 => 
  bif (decide (a5 < a4)) then
   bif (inB a5 (List.length a3)) then
    bif (decide ((0 : Int) < (((List.length (List.getD a3 (Int.toNat a5) ([] : List Bool))) : Nat) : Int))) then
     f153 m a1 (List.getD a3 (Int.toNat a5) ([] : List Bool)) (fun (r2 : Bool) =>
      bif r2 then
       K0 a5 (((List.length (List.getD a3 (Int.toNat a5) ([] : List Bool))) : Nat) : Int) (0 : Int)
      else
       call (.s1 a0 a1 true a3 a4 (IntKind.wrap .i64 (a5 + (1 : Int)))))
    else
     call (.s1 a0 a1 a2 a3 a4 (IntKind.wrap .i64 (a5 + (1 : Int))))
   else
    none
  else
   bif (!a2) then
    K0 (0 : Int) (0 : Int) (3 : Int)
   else
    call (.s2 a1 a0 (((List.length a0) : Nat) : Int) (0 : Int))
  | .s2 a0 a1 a2 a3 => 
  bif (decide (a3 < a2)) then
   bif (inB a3 (List.length a1)) then
    bif (decide ((((List.length a0) : Nat) : Int) < (((List.length (List.getD a1 (Int.toNat a3) ([] : List Bool))) : Nat) : Int))) then
     f153 m (List.getD a1 (Int.toNat a3) ([] : List Bool)) a0 (fun (r2 : Bool) =>
      bif r2 then
       K0 (0 : Int) (0 : Int) (6 : Int)
      else
       call (.s2 a0 a1 a2 (IntKind.wrap .i64 (a3 + (1 : Int)))))
    else
     call (.s2 a0 a1 a2 (IntKind.wrap .i64 (a3 + (1 : Int))))
   else
    none
  else
   K0 (0 : Int) (0 : Int) (3 : Int)
noncomputable def f126 (m : Nat) (a0 : List (List Bool)) (a1 : List Bool) (K0 : Int → Int → Int → Option R) : Option R := iter (f126.step m K0) m (.s0 a0 a1)
noncomputable def f126.pc (m : Nat) (other : Con R) : Con R := pcon [.p (.dat (.sl (.sl .bool))), .p (.dat (.sl .bool))] [] (fun x y K => f126 m (x.1) (x.2.1) (fun r0 r1 r2 => K (.tup [.pv (.int .i64) r0, .pv (.int .i64) r1, .pv (.int .i64) r2]) [])) other
noncomputable def f126.ct (m : Nat) (f : Nat) : Option (List Mode × Con R) := match f with
  | 153 => some ([.bor, .bor], (f153.pc m ncon))
  | _ => none
theorem f126.seg (m : Nat) : Seg (f126.ct (R := R) m) f126.C 0 Tryz.f126 (some [some (.int .i64), some (.int .i64), some (.int .i64)]) f126.todo f126.fr f126.hp (fun K => f126.step m (fun r0 r1 r2 => K (.tup [.pv (.int .i64) r0, .pv (.int .i64) r1, .pv (.int .i64) r2]) [])) := fun K call s => by cases s <;> kernel_rfl
theorem pl153 : Plain Tryz.prog 153 := ⟨Tryz.f153, by kernel_rfl, by kernel_rfl, by kernel_rfl⟩
theorem f126.ctok (hl : Laid G H0) (m : Nat) : CtOk G H0 (f126.ct (R := R) m) := by
  intro f ms F h
  unfold f126.ct at h
  split at h
  · exact ctk h pl153 (f153.ok hl m (ncon_ok _))
  · cases h
theorem f126.ok (hl : Laid G H0) (m : Nat) {other : Con R} (ho : FOk Tryz.prog G H0 126 other) : FOk Tryz.prog G H0 126 (f126.pc m other) :=
  seg_ok (c := bodyOf Tryz.f126) (by kernel_rfl) (by kernel_rfl) ho (f126.ctok hl m) m (f126.seg m) (fun x y => .s0 (x.1) (x.2.1)) (fun x y K => by kernel_rfl) fun _ _ _ => rfl

noncomputable def f94.C : Cuts := ⟨(fun q => match q with
  | _ => none), (fun _ => none)⟩
inductive f94.St where
  | s0 (a0 : List (List Bool)) (a1 : List Bool) (a2 : Int) (a3 : Int) (a4 : Int) (a5 : List Int)
noncomputable def f94.todo : f94.St → List Item
  | .s0 _ _ _ _ _ _ => [.code (bodyOf Tryz.f94)]
noncomputable def f94.fr : f94.St → List SV
  | .s0 a0 a1 a2 a3 a4 a5 => .ptr 0 0 :: .pv (.sl (.sl .bool)) a0 :: ud 51 []
noncomputable def f94.hp : f94.St → List Blk
  | .s0 a0 a1 a2 a3 a4 a5 => [.box [.pv (.sl .bool) a1, .pv (.int .i64) a2, .sl 1 none, .pv (.int .i64) a3, .pv (.int .i64) a4] 76, .row (.int .u8) a5 5 true]
noncomputable def f94.step (m : Nat) (K0 : Int → List Bool → Int → Int → Int → List Int → Option R) (call : f94.St → Option R) : f94.St → Option R
  | .s0 a0 a1 a2 a3 a4 a5 => 
  bif (!(decide (a4 = (0 : Int)))) then
   K0 (0 : Int) a1 a2 a3 a4 a5
  else
   let x2 : Int := IntKind.wrap .i64 (a2 + (16 : Int))
   let x3 : Int := if (((List.length a1) : Nat) : Int) < x2 then (((List.length a1) : Nat) : Int) else x2
   bif (leB x3 (List.length a1)) then
    bif (leB a2 (Int.toNat x3)) then
     f126 m a0 (List.drop (Int.toNat a2) (List.take (Int.toNat x3) a1)) (fun (r5 : Int) (r6 : Int) (r7 : Int) =>
      bif (!(decide (r7 = (0 : Int)))) then
       f52v2 m r7 a1 a2 a3 a4 a5 (fun (r9 : List Bool) (r10 : Int) (r11 : Int) (r12 : Int) (r13 : List Int) =>
        K0 (0 : Int) r9 r10 r11 r12 r13)
      else
       K0 r5 a1 (IntKind.wrap .i64 (a2 + r6)) a3 a4 a5)
    else
     none
   else
    none
noncomputable def f94 (m : Nat) (a0 : List (List Bool)) (a1 : List Bool) (a2 : Int) (a3 : Int) (a4 : Int) (a5 : List Int) (K0 : Int → List Bool → Int → Int → Int → List Int → Option R) : Option R := iter (f94.step m K0) m (.s0 a0 a1 a2 a3 a4 a5)
noncomputable def f94.pc (m : Nat) (other : Con R) : Con R := pcon [.p (.ptr 0 0), .p (.dat (.sl (.sl .bool)))] [.box [.dat (.sl .bool), .dat (.int .i64), .sl 1, .dat (.int .i64), .dat (.int .i64)] 76, .row (.int .u8) 5 true] (fun x y K => f94 m (x.2.1) (y.1.1) (y.1.2.1) (y.1.2.2.2.1) (y.1.2.2.2.2.1) (y.2.1) (fun r0 r1 r2 r3 r4 r5 => K (.pv (.int .i64) r0) [.box [.pv (.sl .bool) r1, .pv (.int .i64) r2, .sl 1 none, .pv (.int .i64) r3, .pv (.int .i64) r4] 76, .row (.int .u8) r5 5 true])) other
noncomputable def f94.ct (m : Nat) (f : Nat) : Option (List Mode × Con R) := match f with
  | 126 => some ([.bor, .bor], (f126.pc m ncon))
  | 52 => some ([.own, .bor], (f52v2.pc m ncon))
  | _ => none
theorem f94.seg (m : Nat) : Seg (f94.ct (R := R) m) f94.C 2 Tryz.f94 (some [some (.int .i64)]) f94.todo f94.fr f94.hp (fun K => f94.step m (fun r0 r1 r2 r3 r4 r5 => K (.pv (.int .i64) r0) [.box [.pv (.sl .bool) r1, .pv (.int .i64) r2, .sl 1 none, .pv (.int .i64) r3, .pv (.int .i64) r4] 76, .row (.int .u8) r5 5 true])) := fun K call s => by cases s <;> kernel_rfl
theorem pl126 : Plain Tryz.prog 126 := ⟨Tryz.f126, by kernel_rfl, by kernel_rfl, by kernel_rfl⟩
theorem f94.ctok (hl : Laid G H0) (m : Nat) : CtOk G H0 (f94.ct (R := R) m) := by
  intro f ms F h
  unfold f94.ct at h
  split at h
  · exact ctk h pl126 (f126.ok hl m (ncon_ok _))
  · exact ctk h pl52 (f52v2.ok hl m (ncon_ok _))
  · cases h
theorem f94.ok (hl : Laid G H0) (m : Nat) {other : Con R} (ho : FOk Tryz.prog G H0 94 other) : FOk Tryz.prog G H0 94 (f94.pc m other) :=
  seg_ok (c := bodyOf Tryz.f94) (by kernel_rfl) (by kernel_rfl) ho (f94.ctok hl m) m (f94.seg m) (fun x y => .s0 (x.2.1) (y.1.1) (y.1.2.1) (y.1.2.2.2.1) (y.1.2.2.2.2.1) (y.2.1)) (fun x y K => by kernel_rfl) fun _ _ _ => rfl

noncomputable def f56.C : Cuts := ⟨(fun q => match q with
  | 2 => some { live := [0, 6, 7, 8, 9, 10, 11], adopt := [] }
  | 13 => some { live := [0, 6, 7, 8, 9, 10, 11, 13, 14], adopt := [] }
  | 18 => some { live := [0, 6, 7, 8, 9, 10, 11, 13, 15, 16], adopt := [] }
  | _ => none), (fun _ => none)⟩
inductive f56.St where
  | s0 (a0 : List Int) (a1 : List Int) (a2 : List Bool) (a3 : Int) (a4 : Int) (a5 : Int) (a6 : List Int)
  | s1 (a0 : List (List Bool)) (a1 : List (List Bool)) (a2 : List Int) (a3 : List Int) (a4 : List Int) (a5 : List Int) (a6 : List Bool) (a7 : Int) (a8 : Int) (a9 : Int) (a10 : List Int)
  | s2 (a0 : List (List Bool)) (a1 : List (List Bool)) (a2 : List Int) (a3 : List Int) (a4 : List Int) (a5 : List Int) (a6 : List Bool) (a7 : Int) (a8 : Int) (a9 : Int) (a10 : List Int)
  | s3 (a0 : List (List Bool)) (a1 : List (List Bool)) (a2 : List Int) (a3 : List Int) (a4 : List Int) (a5 : List Int) (a6 : Int) (a7 : Int) (a8 : List Bool) (a9 : Int) (a10 : Int) (a11 : Int) (a12 : List Int)
  | s4 (a0 : List (List Bool)) (a1 : List (List Bool)) (a2 : List Int) (a3 : List Int) (a4 : List Int) (a5 : List Int) (a6 : Int) (a7 : Int) (a8 : List Bool) (a9 : Int) (a10 : Int) (a11 : Int) (a12 : List Int)
  | s5 (a0 : List (List Bool)) (a1 : List (List Bool)) (a2 : List Int) (a3 : List Int) (a4 : List Int) (a5 : List Int) (a6 : Int) (a7 : Int) (a8 : Int) (a9 : List Bool) (a10 : Int) (a11 : Int) (a12 : Int) (a13 : List Int)
  | s6 (a0 : List (List Bool)) (a1 : List (List Bool)) (a2 : List Int) (a3 : List Int) (a4 : List Int) (a5 : List Int) (a6 : Int) (a7 : Int) (a8 : Int) (a9 : List Bool) (a10 : Int) (a11 : Int) (a12 : Int) (a13 : List Int)
noncomputable def f56.todo : f56.St → List Item
  | .s0 _ _ _ _ _ _ _ => [.code (bodyOf Tryz.f56)]
  | .s1 _ _ _ _ _ _ _ _ _ _ _ => atBef Tryz.f56 2
  | .s2 _ _ _ _ _ _ _ _ _ _ _ => atBef Tryz.f56 2
  | .s3 _ _ _ _ _ _ _ _ _ _ _ _ _ => atBef Tryz.f56 13
  | .s4 _ _ _ _ _ _ _ _ _ _ _ _ _ => atBef Tryz.f56 13
  | .s5 _ _ _ _ _ _ _ _ _ _ _ _ _ _ => atBef Tryz.f56 18
  | .s6 _ _ _ _ _ _ _ _ _ _ _ _ _ _ => atBef Tryz.f56 18
noncomputable def f56.fr : f56.St → List SV
  | .s0 a0 a1 a2 a3 a4 a5 a6 => .ptr 0 0 :: .pv (.sl (.int .i64)) a0 :: .pv (.sl (.int .i64)) a1 :: ud 137 []
  | .s1 a0 a1 a2 a3 a4 a5 a6 a7 a8 a9 a10 => .ptr 0 0 :: dd 5 (.pv (.sl (.sl .bool)) a0 :: .pv (.sl (.sl .bool)) a1 :: .pv (.sl (.int .i64)) a2 :: .pv (.sl (.int .i64)) a3 :: .pv (.sl (.int .i64)) a4 :: .pv (.sl (.int .i64)) a5 :: dd 128 [])
  | .s2 a0 a1 a2 a3 a4 a5 a6 a7 a8 a9 a10 => .ptr 0 0 :: dd 5 (.pv (.sl (.sl .bool)) a0 :: .pv (.sl (.sl .bool)) a1 :: .pv (.sl (.int .i64)) a2 :: .pv (.sl (.int .i64)) a3 :: .pv (.sl (.int .i64)) a4 :: .pv (.sl (.int .i64)) a5 :: dd 128 [])
  | .s3 a0 a1 a2 a3 a4 a5 a6 a7 a8 a9 a10 a11 a12 => .ptr 0 0 :: dd 5 (.pv (.sl (.sl .bool)) a0 :: .pv (.sl (.sl .bool)) a1 :: .pv (.sl (.int .i64)) a2 :: .pv (.sl (.int .i64)) a3 :: .pv (.sl (.int .i64)) a4 :: .pv (.sl (.int .i64)) a5 :: .dead :: .pv (.int .i64) a6 :: .pv (.int .i64) a7 :: dd 125 [])
  | .s4 a0 a1 a2 a3 a4 a5 a6 a7 a8 a9 a10 a11 a12 => .ptr 0 0 :: dd 5 (.pv (.sl (.sl .bool)) a0 :: .pv (.sl (.sl .bool)) a1 :: .pv (.sl (.int .i64)) a2 :: .pv (.sl (.int .i64)) a3 :: .pv (.sl (.int .i64)) a4 :: .pv (.sl (.int .i64)) a5 :: .dead :: .pv (.int .i64) a6 :: .pv (.int .i64) a7 :: dd 125 [])
  | .s5 a0 a1 a2 a3 a4 a5 a6 a7 a8 a9 a10 a11 a12 a13 => .ptr 0 0 :: dd 5 (.pv (.sl (.sl .bool)) a0 :: .pv (.sl (.sl .bool)) a1 :: .pv (.sl (.int .i64)) a2 :: .pv (.sl (.int .i64)) a3 :: .pv (.sl (.int .i64)) a4 :: .pv (.sl (.int .i64)) a5 :: .dead :: .pv (.int .i64) a6 :: .dead :: .pv (.int .i64) a7 :: .pv (.int .i64) a8 :: dd 123 [])
  | .s6 a0 a1 a2 a3 a4 a5 a6 a7 a8 a9 a10 a11 a12 a13 => .ptr 0 0 :: dd 5 (.pv (.sl (.sl .bool)) a0 :: .pv (.sl (.sl .bool)) a1 :: .pv (.sl (.int .i64)) a2 :: .pv (.sl (.int .i64)) a3 :: .pv (.sl (.int .i64)) a4 :: .pv (.sl (.int .i64)) a5 :: .dead :: .pv (.int .i64) a6 :: .dead :: .pv (.int .i64) a7 :: .pv (.int .i64) a8 :: dd 123 [])
noncomputable def f56.hp : f56.St → List Blk
  | .s0 a0 a1 a2 a3 a4 a5 a6 => [.box [.pv (.sl .bool) a2, .pv (.int .i64) a3, .sl 1 none, .pv (.int .i64) a4, .pv (.int .i64) a5] 76, .row (.int .u8) a6 5 true]
  | .s1 a0 a1 a2 a3 a4 a5 a6 a7 a8 a9 a10 => [.box [.pv (.sl .bool) a6, .pv (.int .i64) a7, .sl 1 none, .pv (.int .i64) a8, .pv (.int .i64) a9] 76, .row (.int .u8) a10 5 true]
  | .s2 a0 a1 a2 a3 a4 a5 a6 a7 a8 a9 a10 => [.box [.pv (.sl .bool) a6, .pv (.int .i64) a7, .sl 2 none, .pv (.int .i64) a8, .pv (.int .i64) a9] 76, .dead, .row (.int .u8) a10 5 true]
  | .s3 a0 a1 a2 a3 a4 a5 a6 a7 a8 a9 a10 a11 a12 => [.box [.pv (.sl .bool) a8, .pv (.int .i64) a9, .sl 1 none, .pv (.int .i64) a10, .pv (.int .i64) a11] 76, .row (.int .u8) a12 5 true]
  | .s4 a0 a1 a2 a3 a4 a5 a6 a7 a8 a9 a10 a11 a12 => [.box [.pv (.sl .bool) a8, .pv (.int .i64) a9, .sl 2 none, .pv (.int .i64) a10, .pv (.int .i64) a11] 76, .dead, .row (.int .u8) a12 5 true]
  | .s5 a0 a1 a2 a3 a4 a5 a6 a7 a8 a9 a10 a11 a12 a13 => [.box [.pv (.sl .bool) a9, .pv (.int .i64) a10, .sl 1 none, .pv (.int .i64) a11, .pv (.int .i64) a12] 76, .row (.int .u8) a13 5 true]
  | .s6 a0 a1 a2 a3 a4 a5 a6 a7 a8 a9 a10 a11 a12 a13 => [.box [.pv (.sl .bool) a9, .pv (.int .i64) a10, .sl 2 none, .pv (.int .i64) a11, .pv (.int .i64) a12] 76, .dead, .row (.int .u8) a13 5 true]
noncomputable def f56.step (m : Nat) (K0 : List Bool → Int → Int → Int → List Int → Option R) (K1 : List Bool → Int → Int → Int → List Int → Option R) (call : f56.St → Option R) : f56.St → Option R
  | .s0 a0 a1 a2 a3 a4 a5 a6 => 
  f92 m a0 (fun (r1 : List (List Bool)) =>
   f92 m a1 (fun (r2 : List (List Bool)) =>
    f93 m (fun (r3 : List Int) (r4 : List Int) (r5 : List Int) (r6 : List Int) =>
     call (.s1 r1 r2 r3 r4 r5 r6 a2 a3 a4 a5 a6))))
  | .s1 a0 a1 a2 a3 a4 a5 a6 a7 a8 a9 a10 => 
  bif (decide (a9 = (0 : Int))) then
   f94 m a0 a6 a7 a8 a9 a10 (fun (r1 : Int) (r2 : List Bool) (r3 : Int) (r4 : Int) (r5 : Int) (r6 : List Int) =>
    bif (!(!(decide (r5 = (0 : Int))))) then
     bif (decide (r1 = (256 : Int))) then
      K0 r2 r3 r4 r5 r6
     else
      bif (decide (r1 < (256 : Int))) then
       f91v2 m (IntKind.wrap .u8 r1) r2 r3 r4 r5 r6 (fun (r9 : List Bool) (r10 : Int) (r11 : Int) (r12 : Int) (r13 : List Int) =>
        call (.s2 a0 a1 a2 a3 a4 a5 r9 r10 r11 r12 r13)) (fun (r14 : List Bool) (r15 : Int) (r16 : Int) (r17 : Int) (r18 : List Int) =>
        call (.s1 a0 a1 a2 a3 a4 a5 r14 r15 r16 r17 r18))
      else
       bif (decide ((285 : Int) < r1)) then
        f52v2 m (3 : Int) r2 r3 r4 r5 r6 (fun (r19 : List Bool) (r20 : Int) (r21 : Int) (r22 : Int) (r23 : List Int) =>
         K0 r19 r20 r21 r22 r23)
       else
        let x24 : Int := IntKind.wrap .i64 (r1 - (257 : Int))
        bif (inB x24 (List.length a2)) then
         let x26 : Int := IntKind.wrap .i64 (r1 - (257 : Int))
         bif (inB x26 (List.length a3)) then
          f53v2 m (List.getD a3 (Int.toNat x26) (0 : Int)) r2 r3 r4 r5 r6 (fun (r28 : Int) (r29 : List Bool) (r30 : Int) (r31 : Int) (r32 : Int) (r33 : List Int) =>
           let x34 : Int := IntKind.wrap .i64 ((List.getD a2 (Int.toNat x24) (0 : Int)) + r28)
           f94 m a1 r29 r30 r31 r32 r33 (fun (r35 : Int) (r36 : List Bool) (r37 : Int) (r38 : Int) (r39 : Int) (r40 : List Int) =>
            bif (decide (r39 = (0 : Int))) then
             bif (decide ((29 : Int) < r35)) then
              f52v2 m (3 : Int) r36 r37 r38 r39 r40 (fun (r41 : List Bool) (r42 : Int) (r43 : Int) (r44 : Int) (r45 : List Int) =>
               call (.s3 a0 a1 a2 a3 a4 a5 x34 r35 r41 r42 r43 r44 r45))
             else
              call (.s3 a0 a1 a2 a3 a4 a5 x34 r35 r36 r37 r38 r39 r40)
            else
             call (.s3 a0 a1 a2 a3 a4 a5 x34 r35 r36 r37 r38 r39 r40)))
         else
          none
        else
         none
    else
     K0 r2 r3 r4 r5 r6)
  else
   K0 a6 a7 a8 a9 a10
  | .s2 a0 a1 a2 a3 a4 a5 a6 a7 a8 a9 a10 => 
  bif (decide (a9 = (0 : Int))) then
   f94 m a0 a6 a7 a8 a9 a10 (fun (r1 : Int) (r2 : List Bool) (r3 : Int) (r4 : Int) (r5 : Int) (r6 : List Int) =>
    bif (!(!(decide (r5 = (0 : Int))))) then
     bif (decide (r1 = (256 : Int))) then
      K1 r2 r3 r4 r5 r6
     else
      bif (decide (r1 < (256 : Int))) then
       f91v2 m (IntKind.wrap .u8 r1) r2 r3 r4 r5 r6 (fun (r9 : List Bool) (r10 : Int) (r11 : Int) (r12 : Int) (r13 : List Int) =>
        call (.s2 a0 a1 a2 a3 a4 a5 r9 r10 r11 r12 r13)) (fun (r14 : List Bool) (r15 : Int) (r16 : Int) (r17 : Int) (r18 : List Int) =>
        call (.s2 a0 a1 a2 a3 a4 a5 r14 r15 r16 r17 r18))
      else
       bif (decide ((285 : Int) < r1)) then
        f52v2 m (3 : Int) r2 r3 r4 r5 r6 (fun (r19 : List Bool) (r20 : Int) (r21 : Int) (r22 : Int) (r23 : List Int) =>
         K1 r19 r20 r21 r22 r23)
       else
        let x24 : Int := IntKind.wrap .i64 (r1 - (257 : Int))
        bif (inB x24 (List.length a2)) then
         let x26 : Int := IntKind.wrap .i64 (r1 - (257 : Int))
         bif (inB x26 (List.length a3)) then
          f53v2 m (List.getD a3 (Int.toNat x26) (0 : Int)) r2 r3 r4 r5 r6 (fun (r28 : Int) (r29 : List Bool) (r30 : Int) (r31 : Int) (r32 : Int) (r33 : List Int) =>
           let x34 : Int := IntKind.wrap .i64 ((List.getD a2 (Int.toNat x24) (0 : Int)) + r28)
           f94 m a1 r29 r30 r31 r32 r33 (fun (r35 : Int) (r36 : List Bool) (r37 : Int) (r38 : Int) (r39 : Int) (r40 : List Int) =>
            bif (decide (r39 = (0 : Int))) then
             bif (decide ((29 : Int) < r35)) then
              f52v2 m (3 : Int) r36 r37 r38 r39 r40 (fun (r41 : List Bool) (r42 : Int) (r43 : Int) (r44 : Int) (r45 : List Int) =>
               call (.s4 a0 a1 a2 a3 a4 a5 x34 r35 r41 r42 r43 r44 r45))
             else
              call (.s4 a0 a1 a2 a3 a4 a5 x34 r35 r36 r37 r38 r39 r40)
            else
             call (.s4 a0 a1 a2 a3 a4 a5 x34 r35 r36 r37 r38 r39 r40)))
         else
          none
        else
         none
    else
     K1 r2 r3 r4 r5 r6)
  else
   K1 a6 a7 a8 a9 a10
  | .s3 a0 a1 a2 a3 a4 a5 a6 a7 a8 a9 a10 a11 a12 => 
  bif (!(decide (a11 = (0 : Int)))) then
   K0 a8 a9 a10 a11 a12
  else
   bif (inB a7 (List.length a4)) then
    bif (inB a7 (List.length a5)) then
     f53v2 m (List.getD a5 (Int.toNat a7) (0 : Int)) a8 a9 a10 a11 a12 (fun (r4 : Int) (r5 : List Bool) (r6 : Int) (r7 : Int) (r8 : Int) (r9 : List Int) =>
      let x10 : Int := IntKind.wrap .i64 ((List.getD a4 (Int.toNat a7) (0 : Int)) + r4)
      bif (decide (r8 = (0 : Int))) then
       bif (decide ((((List.length r9) : Nat) : Int) < x10)) then
        f52v2 m (3 : Int) r5 r6 r7 r8 r9 (fun (r11 : List Bool) (r12 : Int) (r13 : Int) (r14 : Int) (r15 : List Int) =>
         call (.s5 a0 a1 a2 a3 a4 a5 a6 x10 (0 : Int) r11 r12 r13 r14 r15))
       else
        call (.s5 a0 a1 a2 a3 a4 a5 a6 x10 (0 : Int) r5 r6 r7 r8 r9)
      else
       call (.s5 a0 a1 a2 a3 a4 a5 a6 x10 (0 : Int) r5 r6 r7 r8 r9))
    else
     none
   else
    none
  | .s4 a0 a1 a2 a3 a4 a5 a6 a7 a8 a9 a10 a11 a12 => 
  bif (!(decide (a11 = (0 : Int)))) then
   K1 a8 a9 a10 a11 a12
  else
   bif (inB a7 (List.length a4)) then
    bif (inB a7 (List.length a5)) then
     f53v2 m (List.getD a5 (Int.toNat a7) (0 : Int)) a8 a9 a10 a11 a12 (fun (r4 : Int) (r5 : List Bool) (r6 : Int) (r7 : Int) (r8 : Int) (r9 : List Int) =>
      let x10 : Int := IntKind.wrap .i64 ((List.getD a4 (Int.toNat a7) (0 : Int)) + r4)
      bif (decide (r8 = (0 : Int))) then
       bif (decide ((((List.length r9) : Nat) : Int) < x10)) then
        f52v2 m (3 : Int) r5 r6 r7 r8 r9 (fun (r11 : List Bool) (r12 : Int) (r13 : Int) (r14 : Int) (r15 : List Int) =>
         call (.s6 a0 a1 a2 a3 a4 a5 a6 x10 (0 : Int) r11 r12 r13 r14 r15))
       else
        call (.s6 a0 a1 a2 a3 a4 a5 a6 x10 (0 : Int) r5 r6 r7 r8 r9)
      else
       call (.s6 a0 a1 a2 a3 a4 a5 a6 x10 (0 : Int) r5 r6 r7 r8 r9))
    else
     none
   else
    none
  | .s5 a0 a1 a2 a3 a4 a5 a6 a7 a8 a9 a10 a11 a12 a13 => 
  bif (decide (a8 < a6)) then
   bif (decide (a12 = (0 : Int))) then
    let x1 : Int := IntKind.wrap .i64 ((((List.length a13) : Nat) : Int) - a7)
    bif (inB x1 (List.length a13)) then
     f91v2 m (List.getD a13 (Int.toNat x1) (0 : Int)) a9 a10 a11 a12 a13 (fun (r4 : List Bool) (r5 : Int) (r6 : Int) (r7 : Int) (r8 : List Int) =>
      call (.s6 a0 a1 a2 a3 a4 a5 a6 a7 (IntKind.wrap .i64 (a8 + (1 : Int))) r4 r5 r6 r7 r8)) (fun (r10 : List Bool) (r11 : Int) (r12 : Int) (r13 : Int) (r14 : List Int) =>
      call (.s5 a0 a1 a2 a3 a4 a5 a6 a7 (IntKind.wrap .i64 (a8 + (1 : Int))) r10 r11 r12 r13 r14))
    else
     none
   else
    call (.s1 a0 a1 a2 a3 a4 a5 a9 a10 a11 a12 a13)
  else
   call (.s1 a0 a1 a2 a3 a4 a5 a9 a10 a11 a12 a13)
  | .s6 a0 a1 a2 a3 a4 a5 a6 a7 a8 a9 a10 a11 a12 a13 => 
  bif (decide (a8 < a6)) then
   bif (decide (a12 = (0 : Int))) then
    let x1 : Int := IntKind.wrap .i64 ((((List.length a13) : Nat) : Int) - a7)
    bif (inB x1 (List.length a13)) then
     f91v2 m (List.getD a13 (Int.toNat x1) (0 : Int)) a9 a10 a11 a12 a13 (fun (r4 : List Bool) (r5 : Int) (r6 : Int) (r7 : Int) (r8 : List Int) =>
      call (.s6 a0 a1 a2 a3 a4 a5 a6 a7 (IntKind.wrap .i64 (a8 + (1 : Int))) r4 r5 r6 r7 r8)) (fun (r10 : List Bool) (r11 : Int) (r12 : Int) (r13 : Int) (r14 : List Int) =>
      call (.s6 a0 a1 a2 a3 a4 a5 a6 a7 (IntKind.wrap .i64 (a8 + (1 : Int))) r10 r11 r12 r13 r14))
    else
     none
   else
    call (.s2 a0 a1 a2 a3 a4 a5 a9 a10 a11 a12 a13)
  else
   call (.s2 a0 a1 a2 a3 a4 a5 a9 a10 a11 a12 a13)
noncomputable def f56 (m : Nat) (a0 : List Int) (a1 : List Int) (a2 : List Bool) (a3 : Int) (a4 : Int) (a5 : Int) (a6 : List Int) (K0 : List Bool → Int → Int → Int → List Int → Option R) (K1 : List Bool → Int → Int → Int → List Int → Option R) : Option R := iter (f56.step m K0 K1) m (.s0 a0 a1 a2 a3 a4 a5 a6)
noncomputable def f56.pc (m : Nat) (other : Con R) : Con R := pcon [.p (.ptr 0 0), .p (.dat (.sl (.int .i64))), .p (.dat (.sl (.int .i64)))] [.box [.dat (.sl .bool), .dat (.int .i64), .sl 1, .dat (.int .i64), .dat (.int .i64)] 76, .row (.int .u8) 5 true] (fun x y K => f56 m (x.2.1) (x.2.2.1) (y.1.1) (y.1.2.1) (y.1.2.2.2.1) (y.1.2.2.2.2.1) (y.2.1) (fun r0 r1 r2 r3 r4 => K (.tup []) [.box [.pv (.sl .bool) r0, .pv (.int .i64) r1, .sl 1 none, .pv (.int .i64) r2, .pv (.int .i64) r3] 76, .row (.int .u8) r4 5 true]) (fun r0 r1 r2 r3 r4 => K (.tup []) [.box [.pv (.sl .bool) r0, .pv (.int .i64) r1, .sl 2 none, .pv (.int .i64) r2, .pv (.int .i64) r3] 76, .dead, .row (.int .u8) r4 5 true])) other
noncomputable def f56.ct (m : Nat) (f : Nat) : Option (List Mode × Con R) := match f with
  | 92 => some ([.bor], (f92.pc m ncon))
  | 93 => some ([], (f93.pc m ncon))
  | 94 => some ([.own, .bor], (f94.pc m ncon))
  | 91 => some ([.own, .bor], (f91v2.pc m ncon))
  | 52 => some ([.own, .bor], (f52v2.pc m ncon))
  | 53 => some ([.own, .bor], (f53v2.pc m ncon))
  | _ => none
theorem f56.seg (m : Nat) : Seg (f56.ct (R := R) m) f56.C 2 Tryz.f56 (some []) f56.todo f56.fr f56.hp (fun K => f56.step m (fun r0 r1 r2 r3 r4 => K (.tup []) [.box [.pv (.sl .bool) r0, .pv (.int .i64) r1, .sl 1 none, .pv (.int .i64) r2, .pv (.int .i64) r3] 76, .row (.int .u8) r4 5 true]) (fun r0 r1 r2 r3 r4 => K (.tup []) [.box [.pv (.sl .bool) r0, .pv (.int .i64) r1, .sl 2 none, .pv (.int .i64) r2, .pv (.int .i64) r3] 76, .dead, .row (.int .u8) r4 5 true])) := fun K call s => by cases s <;> kernel_rfl
theorem pl92 : Plain Tryz.prog 92 := ⟨Tryz.f92, by kernel_rfl, by kernel_rfl, by kernel_rfl⟩
theorem pl93 : Plain Tryz.prog 93 := ⟨Tryz.f93, by kernel_rfl, by kernel_rfl, by kernel_rfl⟩
theorem pl94 : Plain Tryz.prog 94 := ⟨Tryz.f94, by kernel_rfl, by kernel_rfl, by kernel_rfl⟩
theorem f56.ctok (hl : Laid G H0) (m : Nat) : CtOk G H0 (f56.ct (R := R) m) := by
  intro f ms F h
  unfold f56.ct at h
  split at h
  · exact ctk h pl92 (f92.ok hl m (ncon_ok _))
  · exact ctk h pl93 (f93.ok hl m (ncon_ok _))
  · exact ctk h pl94 (f94.ok hl m (ncon_ok _))
  · exact ctk h pl91 (f91v2.ok hl m (ncon_ok _))
  · exact ctk h pl52 (f52v2.ok hl m (ncon_ok _))
  · exact ctk h pl53 (f53v2.ok hl m (ncon_ok _))
  · cases h
theorem f56.ok (hl : Laid G H0) (m : Nat) {other : Con R} (ho : FOk Tryz.prog G H0 56 other) : FOk Tryz.prog G H0 56 (f56.pc m other) :=
  seg_ok (c := bodyOf Tryz.f56) (by kernel_rfl) (by kernel_rfl) ho (f56.ctok hl m) m (f56.seg m) (fun x y => .s0 (x.2.1) (x.2.2.1) (y.1.1) (y.1.2.1) (y.1.2.2.2.1) (y.1.2.2.2.2.1) (y.2.1)) (fun x y K => by kernel_rfl) fun _ _ _ => rfl

noncomputable def f26.C : Cuts := ⟨(fun q => match q with
  | 4 => some { live := [9], adopt := [(9, [2], (.int .u8), 5)] }
  | 7 => some { live := [9], adopt := [] }
  | 21 => some { live := [9, 10], adopt := [] }
  | _ => none), (fun _ => none)⟩
inductive f26.St where
  | s0 (a0 : List UInt8) (a1 : Int) (a2 : Int)
  | s1 (a0 : List Bool) (a1 : Int) (a2 : Int) (a3 : Int) (a4 : List Int)
  | s2 (a0 : List Bool) (a1 : Int) (a2 : Int) (a3 : Int) (a4 : List Int)
  | s3 (a0 : Int) (a1 : List Bool) (a2 : Int) (a3 : Int) (a4 : Int) (a5 : List Int)
noncomputable def f26.todo : f26.St → List Item
  | .s0 _ _ _ => [.code (bodyOf Tryz.f26)]
  | .s1 _ _ _ _ _ => atBef Tryz.f26 4
  | .s2 _ _ _ _ _ => atBef Tryz.f26 7
  | .s3 _ _ _ _ _ _ => atBef Tryz.f26 21
noncomputable def f26.fr : f26.St → List SV
  | .s0 a0 a1 a2 => .pv .str a0 :: .pv (.int .i64) a1 :: .pv (.int .i64) a2 :: ud 122 []
  | .s1 a0 a1 a2 a3 a4 => dd 9 (.ptr 0 0 :: dd 115 [])
  | .s2 a0 a1 a2 a3 a4 => dd 9 (.ptr 0 0 :: dd 115 [])
  | .s3 a0 a1 a2 a3 a4 a5 => dd 9 (.ptr 0 0 :: .pv (.int .i64) a0 :: dd 114 [])
noncomputable def f26.hp : f26.St → List Blk
  | .s0 a0 a1 a2 => []
  | .s1 a0 a1 a2 a3 a4 => [.box [.pv (.sl .bool) a0, .pv (.int .i64) a1, .sl 1 none, .pv (.int .i64) a2, .pv (.int .i64) a3] 76, .row (.int .u8) a4 5 true]
  | .s2 a0 a1 a2 a3 a4 => [.box [.pv (.sl .bool) a0, .pv (.int .i64) a1, .sl 1 none, .pv (.int .i64) a2, .pv (.int .i64) a3] 76, .row (.int .u8) a4 5 true]
  | .s3 a0 a1 a2 a3 a4 a5 => [.box [.pv (.sl .bool) a1, .pv (.int .i64) a2, .sl 1 none, .pv (.int .i64) a3, .pv (.int .i64) a4] 76, .row (.int .u8) a5 5 true]
noncomputable def f26.step (m : Nat) (K0 : List UInt8 → Int → Int → Option R) (call : f26.St → Option R) : f26.St → Option R
  | .s0 a0 a1 a2 => 
  bif (!(decide (a1 < (0 : Int)))) then
   bif (!(decide ((((List.length a0) : Nat) : Int) < a1))) then
    bif (!(decide (a2 < (0 : Int)))) then
     bif (decide ((65536 : Int) < a2)) then
      K0 ([] : List UInt8) (0 : Int) (1 : Int)
     else
      bif (leB a1 (List.length a0)) then
       f51 m (List.drop (Int.toNat a1) a0) (fun (r2 : List Bool) =>
        call (.s1 r2 (0 : Int) a2 (0 : Int) ([] : List Int)))
      else
       none
    else
     K0 ([] : List UInt8) (0 : Int) (1 : Int)
   else
    K0 ([] : List UInt8) (0 : Int) (1 : Int)
  else
   K0 ([] : List UInt8) (0 : Int) (1 : Int)
  | .s1 a0 a1 a2 a3 a4 => 
  bif (decide (a3 = (0 : Int))) then
   bif (decide ((IntKind.wrap .i64 ((((List.length a0) : Nat) : Int) - a1)) < (3 : Int))) then
    f52v2 m (6 : Int) a0 a1 a2 a3 a4 (fun (r2 : List Bool) (r3 : Int) (r4 : Int) (r5 : Int) (r6 : List Int) =>
     call (.s2 r2 r3 r4 r5 r6))
   else
    call (.s2 a0 a1 a2 a3 a4)
  else
   K0 ([] : List UInt8) (0 : Int) a3
  | .s2 a0 a1 a2 a3 a4 => 
  f53v2 m (1 : Int) a0 a1 a2 a3 a4 (fun (r1 : Int) (r2 : List Bool) (r3 : Int) (r4 : Int) (r5 : Int) (r6 : List Int) =>
   f53v2 m (2 : Int) r2 r3 r4 r5 r6 (fun (r7 : Int) (r8 : List Bool) (r9 : Int) (r10 : Int) (r11 : Int) (r12 : List Int) =>
    bif (decide (r11 = (0 : Int))) then
     bif (decide (r7 = (0 : Int))) then
      f54v2 m r8 r9 r10 r11 r12 (fun (r13 : List Bool) (r14 : Int) (r15 : Int) (r16 : Int) (r17 : List Int) =>
       call (.s3 r1 r13 r14 r15 r16 r17)) (fun (r18 : List Bool) (r19 : Int) (r20 : Int) (r21 : Int) (r22 : List Int) =>
       call (.s3 r1 r18 r19 r20 r21 r22))
     else
      bif (decide (r7 = (1 : Int))) then
       f55 m (fun (r23 : List Int) (r24 : List Int) =>
        f56 m r23 r24 r8 r9 r10 r11 r12 (fun (r25 : List Bool) (r26 : Int) (r27 : Int) (r28 : Int) (r29 : List Int) =>
         call (.s3 r1 r25 r26 r27 r28 r29)) (fun (r30 : List Bool) (r31 : Int) (r32 : Int) (r33 : Int) (r34 : List Int) =>
         call (.s3 r1 r30 r31 r32 r33 r34)))
      else
       bif (decide (r7 = (2 : Int))) then
        none
       else
        bif (decide (r7 = (3 : Int))) then
         f52v2 m (3 : Int) r8 r9 r10 r11 r12 (fun (r35 : List Bool) (r36 : Int) (r37 : Int) (r38 : Int) (r39 : List Int) =>
          call (.s3 r1 r35 r36 r37 r38 r39))
        else
         call (.s3 r1 r8 r9 r10 r11 r12)
    else
     call (.s3 r1 r8 r9 r10 r11 r12)))
  | .s3 a0 a1 a2 a3 a4 a5 => 
  bif (decide (a4 = (0 : Int))) then
   bif (decide (a0 = (1 : Int))) then
    f58 m a2 (fun (r2 : Int) =>
     K0 (bytesOf a5) (IntKind.wrap .i64 (Int.tdiv r2 (8 : Int))) (0 : Int))
   else
    call (.s1 a1 a2 a3 a4 a5)
  else
   call (.s1 a1 a2 a3 a4 a5)
noncomputable def f26 (m : Nat) (a0 : List UInt8) (a1 : Int) (a2 : Int) (K0 : List UInt8 → Int → Int → Option R) : Option R := iter (f26.step m K0) m (.s0 a0 a1 a2)
noncomputable def f26.pc (m : Nat) (other : Con R) : Con R := pcon [.p (.dat .str), .p (.dat (.int .i64)), .p (.dat (.int .i64))] [] (fun x y K => f26 m (x.1) (x.2.1) (x.2.2.1) (fun r0 r1 r2 => K (.tup [.pv .str r0, .pv (.int .i64) r1, .pv (.int .i64) r2]) [])) other
noncomputable def f26.ct (m : Nat) (f : Nat) : Option (List Mode × Con R) := match f with
  | 51 => some ([.bor], (f51.pc m ncon))
  | 52 => some ([.own, .bor], (f52v2.pc m ncon))
  | 53 => some ([.own, .bor], (f53v2.pc m ncon))
  | 54 => some ([.own], (f54v2.pc m ncon))
  | 55 => some ([], (f55.pc m ncon))
  | 56 => some ([.own, .bor, .bor], (f56.pc m ncon))
  | 58 => some ([.bor], (f58.pc m ncon))
  | _ => none
theorem f26.seg (m : Nat) : Seg (f26.ct (R := R) m) f26.C 0 Tryz.f26 (some [some .str, some (.int .i64), some (.int .i64)]) f26.todo f26.fr f26.hp (fun K => f26.step m (fun r0 r1 r2 => K (.tup [.pv .str r0, .pv (.int .i64) r1, .pv (.int .i64) r2]) [])) := fun K call s => by cases s <;> kernel_rfl
theorem pl51 : Plain Tryz.prog 51 := ⟨Tryz.f51, by kernel_rfl, by kernel_rfl, by kernel_rfl⟩
theorem pl54 : Plain Tryz.prog 54 := ⟨Tryz.f54, by kernel_rfl, by kernel_rfl, by kernel_rfl⟩
theorem pl55 : Plain Tryz.prog 55 := ⟨Tryz.f55, by kernel_rfl, by kernel_rfl, by kernel_rfl⟩
theorem pl56 : Plain Tryz.prog 56 := ⟨Tryz.f56, by kernel_rfl, by kernel_rfl, by kernel_rfl⟩
theorem f26.ctok (hl : Laid G H0) (m : Nat) : CtOk G H0 (f26.ct (R := R) m) := by
  intro f ms F h
  unfold f26.ct at h
  split at h
  · exact ctk h pl51 (f51.ok hl m (ncon_ok _))
  · exact ctk h pl52 (f52v2.ok hl m (ncon_ok _))
  · exact ctk h pl53 (f53v2.ok hl m (ncon_ok _))
  · exact ctk h pl54 (f54v2.ok hl m (ncon_ok _))
  · exact ctk h pl55 (f55.ok hl m (ncon_ok _))
  · exact ctk h pl56 (f56.ok hl m (ncon_ok _))
  · exact ctk h pl58 (f58.ok hl m (ncon_ok _))
  · cases h
theorem f26.ok (hl : Laid G H0) (m : Nat) {other : Con R} (ho : FOk Tryz.prog G H0 26 other) : FOk Tryz.prog G H0 26 (f26.pc m other) :=
  seg_ok (c := bodyOf Tryz.f26) (by kernel_rfl) (by kernel_rfl) ho (f26.ctok hl m) m (f26.seg m) (fun x y => .s0 (x.1) (x.2.1) (x.2.2.1)) (fun x y K => by kernel_rfl) fun _ _ _ => rfl

end Go.AM
