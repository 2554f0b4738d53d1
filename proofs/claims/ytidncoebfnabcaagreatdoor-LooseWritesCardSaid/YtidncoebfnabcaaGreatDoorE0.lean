/- The abstract machine: values, blocks, one operation (definitions and their relation to the model). -/
import Derived.Calls
import Derived.Laws.World
import Derived.Laws.Sem
import Derived.Laws.Cells
import Derived.Laws.AppendOwn
import Derived.Laws.Append
import Derived.Laws.Strings
import Derived.Laws.StructEq
namespace Go.AM

inductive Ty where
  | int (k : IntKind) | bool | str | unit | prod (a b : Ty) | sl (a : Ty) | ptr (a : Ty) | arr (n : Nat) (a : Ty) | err
  deriving DecidableEq

@[reducible] def Ty.D : Ty → Type
  | .int _ => Int
  | .bool => Bool
  | .str => List UInt8
  | .unit => Unit
  | .prod a b => a.D × b.D
  | .sl a => List a.D
  | .ptr a => Option a.D
  | .arr _ a => List a.D
  | .err => Bool

def Ty.size : Ty → Nat
  | .unit => 0
  | .prod a b => a.size + b.size
  | .arr n a => n * a.size
  | _ => 1

def Ty.dflt : (t : Ty) → t.D
  | .int _ => (0 : Int)
  | .bool => false
  | .str => ([] : List UInt8)
  | .unit => ()
  | .prod a b => (a.dflt, b.dflt)
  | .sl _ => []
  | .ptr _ => none
  | .arr n a => List.replicate n a.dflt
  | .err => true

def Ty.flatData : Ty → Bool
  | .sl _ | .ptr _ => false
  | .prod a b => a.flatData && b.flatData
  | .arr _ a => a.flatData
  | _ => true

inductive SV where
  | pv (t : Ty) (x : t.D)
  | ptr (i c : Nat)
  | rptr (i e j : Nat)
  | aptr (i c n k e j : Nat)
  | sl (i : Nat) (win : Option (Nat × Nat))
  | asl (i c n k : Nat)
  | emp | nils | nilp | nilm | nilf | nili
  | mapr (i : Nat)
  | fn (f : Nat) (caps : List SV)
  | iface (t : Nat) (v : SV)
  | agg (vs : List SV)
  | tup (vs : List SV)
  | undef | dead

inductive Blk where
  | dead
  | box (es : List SV) (ety : Nat)
  | row (t : Ty) (xs : List t.D) (ety : Nat) (gr : Bool)
  | map (kt vt : Ty) (es : List (kt.D × vt.D))

def castTy (a b : Ty) (x : a.D) : Option b.D := if h : a = b then some (h ▸ x) else none

def flat : (t : Ty) → t.D → List SV
  | .unit, _ => []
  | .prod a b, x => flat a x.1 ++ flat b x.2
  | t, x => [.pv t x]

def one (t : Ty) : SV → Option t.D
  | .pv t' x => castTy t' t x
  | .nils => match t with | .sl _ => some [] | _ => none
  | .emp => match t with | .sl _ => some [] | _ => none
  | .nilp => match t with | .ptr _ => some none | _ => none
  | .nili => match t with | .err => some true | _ => none
  | _ => none

def unflat : (t : Ty) → List SV → Option (t.D × List SV)
  | .unit, es => some ((), es)
  | .prod a b, es => match unflat a es with
    | some (x, r) => match unflat b r with
      | some (y, r') => some ((x, y), r')
      | none => none
    | none => none
  | t, e :: es => match one t e with
    | some x => some (x, es)
    | none => none
  | _, [] => none

def whole (t : Ty) (es : List SV) : Option t.D := match unflat t es with
  | some (x, []) => some x
  | _ => none

def esize : SV → Nat
  | .pv t _ => t.size
  | _ => 1

def skip : List SV → Nat → Option (List SV)
  | es, 0 => some es
  | e :: es, c => if esize e ≤ c then skip es (c - esize e) else none
  | [], _ => none

def takeC : List SV → Nat → Option (List SV)
  | _, 0 => some []
  | e :: es, n => if esize e ≤ n then (takeC es (n - esize e)).map (e :: ·) else none
  | [], _ => none

def esizes (es : List SV) : Nat := es.foldr (fun e n => esize e + n) 0

def splice : List SV → Nat → List SV → Option (List SV)
  | es, 0, new => (skip es (esizes new)).map (new ++ ·)
  | e :: es, c, new => if esize e ≤ c then (splice es (c - esize e) new).map (e :: ·) else none
  | [], _, _ => none

def subAt : (a : Ty) → Nat → (want : Ty) → a.D → Option want.D
  | .prod a b, off, want, x =>
    if off = 0 ∧ Ty.prod a b = want then castTy (.prod a b) want x
    else if off < a.size then subAt a off want x.1 else subAt b (off - a.size) want x.2
  | a, off, want, x => if off = 0 then castTy a want x else none

inductive TK where
  | int (k : IntKind) | bool | str | slice (e : Nat) | ptr (e : Nat) | struct (offs : List (Nat × Nat)) | arr (n e : Nat) | map (k v : Nat) | iface | other

structure TI where
  kind : TK
  size : Nat
  agg : Bool
  bytes : Nat
  ty : Option Ty
  zero : List SV
  eqs : Bool := false

abbrev Delta := List (Nat × Blk)

def setAt : List Blk → Nat → Blk → List Blk
  | [], 0, B => [B]
  | [], i + 1, B => .dead :: setAt [] i B
  | _ :: h, 0, B => B :: h
  | A :: h, i + 1, B => A :: setAt h i B

def applyD (h : List Blk) (d : Delta) : List Blk := d.foldl (fun h p => setAt h p.1 p.2) h

def blkOf (h : List Blk) (i : Nat) : Blk := h.getD i .dead

abbrev Look := Nat → Blk

def pubL (f : SV → Option (SV × List Nat)) : List SV → Option (List SV × List Nat)
  | [] => some ([], [])
  | e :: es => match f e with
    | some (e', d) => match pubL f es with
      | some (es', d') => some (e' :: es', d ++ d')
      | none => none
    | none => none

def pubStep (tyOf : Nat → Option Ty) (look : Look) (f : SV → Option (SV × List Nat)) (v : SV) : Option (SV × List Nat) := match v with
  | .sl i none => match look i with
    | .row t xs _ _ => some (.pv (.sl t) xs, [i])
    | _ => none
  | .sl i (some (e, m)) => match look i with
    | .row t xs _ _ => some (.pv (.sl t) ((xs.drop e).take m), [i])
    | _ => none
  | .ptr i 0 => match look i with
    | .box es ety => match tyOf ety with
      | some t => match pubL f es with
        | some (es', d) => match whole t es' with
          | some x => some (.pv (.ptr t) (some x), i :: d)
          | none => none
        | none => none
      | none => none
    | _ => none
  | v => some (v, [])

def pub1 (tyOf : Nat → Option Ty) (look : Look) : Nat → SV → Option (SV × List Nat)
  | 0, v => some (v, [])
  | n + 1, v => pubStep tyOf look (pub1 tyOf look n) v

def pubs (tyOf : Nat → Option Ty) (look : Look) (es : List SV) : Option (List SV × List Nat) := pubL (pub1 tyOf look 6) es

def entsOf : SV → Option (List SV)
  | .agg es => some es
  | .tup _ | .undef | .dead => none
  | v => some [v]

def Ty.isAgg : Ty → Bool
  | .unit | .prod _ _ | .arr _ _ => true
  | _ => false

def deref {R α : Type} (o : Option α) (k : α → Option R) : Option R := match o with
  | some x => k x
  | none => none

def LIM : Nat := 140737488351232

def ibits (op : BinOp) (k : IntKind) (x y : Int) : Int :=
  let a := BitVec.ofInt k.bits x
  let b := BitVec.ofInt k.bits y
  match op with
  | .and => k.wrap (a &&& b).toNat
  | .or => k.wrap (a ||| b).toNat
  | .xor => k.wrap (a ^^^ b).toNat
  | _ => k.wrap (a &&& ~~~b).toNat

def strLt (a b : List UInt8) : Bool := Op.bytesLess a b

def mget {κ α : Type} (eq : κ → κ → Bool) : List (κ × α) → κ → Option α
  | [], _ => none
  | e :: es, k => bif eq k e.1 then some e.2 else mget eq es k

def mset {κ α : Type} (eq : κ → κ → Bool) : List (κ × α) → κ → α → List (κ × α)
  | [], k, v => [(k, v)]
  | e :: es, k, v => bif eq k e.1 then (k, v) :: es else e :: mset eq es k v

def keyEq : (t : Ty) → Option (t.D → t.D → Bool)
  | .int _ => some fun (a b : Int) => decide (a = b)
  | .str => some fun (a b : List UInt8) => decide (a = b)
  | _ => none

section
variable {R : Type}

structure Env (R : Type) where
  tab : Nat → Option TI
  con : Nat → List SV → Look → Nat → (SV → Delta → List Nat → Option R) → Option R

abbrev KOp (R : Type) := SV → Delta → List Nat → Option R

def Env.tyOf (E : Env R) (t : Nat) : Option Ty := match E.tab t with
  | some i => i.ty
  | none => none

def loadE (ti : TI) (es : Option (List SV)) (k : SV → Option R) : Option R := match es with
  | some es => match ti.agg with
    | true => match takeC es ti.size with
      | some l => k (.agg l)
      | none => none
    | false => match es with
      | e :: _ => if esize e = 1 then k e else none
      | [] => none
  | none => none

def xload (ti : TI) (look : Look) (a : SV) (k : KOp R) : Option R := match a with
  | .ptr i c => match look i with
    | .box es _ => loadE ti (skip es c) fun v => k v [] [i]
    | _ => none
  | .rptr i e j => match look i with
    | .row t xs _ _ => loadE ti (skip (flat t (xs.getD e t.dflt)) j) fun v => k v [] [i]
    | _ => none
  | .aptr i c n m e j => match look i with
    | .box es _ => match skip es c with
      | some (.pv (.arr n' a) xs :: _) => if n' = n ∧ a.size = m then loadE ti (skip (flat a (xs.getD e a.dflt)) j) fun v => k v [] [i] else none
      | _ => none
    | _ => none
  | .pv (.ptr t) o => deref o fun x => loadE ti (some (flat t x)) fun v => k v [] []
  | _ => none

def kills (d : List Nat) : Delta := d.map fun i => (i, .dead)

def xstore (E : Env R) (ti : TI) (look : Look) (a v : SV) (k : KOp R) : Option R := match entsOf v with
 | none => none
 | some new =>
  if esizes new = ti.size then
  match a with
  | .ptr i c => match look i with
    | .box es ety => match splice es c new with
      | some es' => k .undef [(i, .box es' ety)] [i]
      | none => none
    | _ => none
  | .rptr i e j => match look i with
    | .row t xs ety gr => match pubs E.tyOf look new with
      | some (new', d) => if d.contains i then none else match splice (flat t (xs.getD e t.dflt)) j new' with
        | some es' => match whole t es' with
          | some x => k .undef (kills d ++ [(i, .row t (xs.set e x) ety gr)]) (i :: d)
          | none => none
        | none => none
      | none => none
    | _ => none
  | .aptr i c n m e j => match look i with
    | .box es ety => match skip es c with
      | some (.pv (.arr n' a) xs :: _) => if n' = n ∧ a.size = m then match splice (flat a (xs.getD e a.dflt)) j new with
        | some es1 => match whole a es1 with
          | some x => match splice es c [.pv (.arr n' a) (xs.set e x)] with
            | some es' => k .undef [(i, .box es' ety)] [i]
            | none => none
          | none => none
        | none => none
        else none
      | _ => none
    | _ => none
  | _ => none
  else none

def offOf : List (Nat × Nat) → Nat → Option (Nat × Nat) := fun l i => l[i]?

def xfieldAddr (E : Env R) (s : Nat) (a : SV) (f : Nat) (k : KOp R) : Option R := match E.tab s with
  | some { kind := .struct offs, .. } => match offOf offs f with
    | some (off, ft) => match E.tab ft with
      | some tf => if tf.size = 0 then none else match a with
        | .ptr i c => k (.ptr i (c + off)) [] []
        | .rptr i e j => k (.rptr i e (j + off)) [] []
        | .aptr i c n m e j => k (.aptr i c n m e (j + off)) [] []
        | .pv (.ptr t) o => match tf.ty with
          | some want => deref o fun x => match subAt t off want x with
            | some y => k (.pv (.ptr want) (some y)) [] []
            | none => none
          | none => none
        | _ => none
      | none => none
    | none => none
  | _ => none

def inB (i : Int) (n : Nat) : Bool := decide (0 ≤ i) && decide (i < (n : Int))

def xindexAddr (E : Env R) (t : Nat) (look : Look) (x ix : SV) (k : KOp R) : Option R := match ix with
  | .pv (.int _) i => match E.tab t with
    | some { kind := .slice e, .. } => match E.tab e with
      | some te => match x with
        | .sl b none => match look b with
          | .row t xs _ _ => if te.size = t.size then bif inB i xs.length then k (.rptr b i.toNat 0) [] [b] else none else none
          | _ => none
        | .sl b (some (e, n)) => match look b with
          | .row t _ _ _ => if te.size = t.size then bif inB i n then k (.rptr b (e + i.toNat) 0) [] [b] else none else none
          | _ => none
        | .pv (.sl a) xs => if te.size = a.size then bif inB i xs.length then k (.pv (.ptr a) (some (xs.getD i.toNat a.dflt))) [] [] else none else none
        | _ => none
      | none => none
    | some { kind := .arr n e, .. } => match E.tab e with
      | some te => match x with
        | .ptr b c => bif inB i n then k (.aptr b c n te.size i.toNat 0) [] [] else none
        | .pv (.ptr (.arr m a)) o => if m = n ∧ te.size = a.size then deref o fun xs => bif inB i n then k (.pv (.ptr a) (some (xs.getD i.toNat a.dflt))) [] [] else none else none
        | _ => none
      | none => none
    | _ => none
  | _ => none

def xindex (E : Env R) (t : Nat) (x ix : SV) (k : KOp R) : Option R := match ix with
  | .pv (.int _) i => match E.tab t with
    | some { kind := .str, .. } => match x with
      | .pv .str s => bif inB i s.length then k (.pv (.int .u8) ((s.getD i.toNat 0).toNat : Int)) [] [] else none
      | _ => none
    | some { kind := .arr n e, .. } => match x with
      | .agg [.pv (.arr m a) xs] => match E.tab e with
        | some te => if m = n ∧ te.size = a.size then bif inB i n then loadE te (some (flat a (xs.getD i.toNat a.dflt))) fun v => k v [] [] else none else none
        | none => none
      | _ => none
    | _ => none
  | _ => none

def bnd (x : Option SV) : Option (Option Int) := match x with
  | none => some none
  | some (.pv (.int _) n) => some (some n)
  | _ => none

def leB (i : Int) (n : Nat) : Bool := decide (0 ≤ i) && decide (i ≤ (n : Int))

def cutList {α : Type} (xs : List α) (lo hi : Option Int) (k : List α → Option R) : Option R := match lo, hi with
  | none, none => k xs
  | none, some h => bif leB h xs.length then k (xs.take h.toNat) else none
  | some l, none => bif leB l xs.length then k (xs.drop l.toNat) else none
  | some l, some h => bif leB h xs.length then (bif leB l h.toNat then k ((xs.take h.toNat).drop l.toNat) else none) else none

def cutWin (e n : Nat) (lo hi : Option Int) (k : Nat → Nat → Option R) : Option R := match lo, hi with
  | none, none => k e n
  | none, some h => bif leB h n then k e h.toNat else none
  | some l, none => bif leB l n then k (e + l.toNat) (n - l.toNat) else none
  | some l, some h => bif leB h n then (bif leB l h.toNat then k (e + l.toNat) (h.toNat - l.toNat) else none) else none

def isZero (o : Option SV) : Bool := match o with
  | some (.pv (.int _) n) => decide (n = (0 : Int))
  | _ => false

def xslice (E : Env R) (t : Nat) (look : Look) (x : SV) (lo hi mx : Option SV) (k : KOp R) : Option R := match E.tab t with
  | none => none
  | some ti => match mx with
    | some _ => match ti.kind, x, lo with
      | .slice e, .pv (.sl _) _, none | .slice e, .sl _ _, none | .slice e, .nils, none | .slice e, .emp, none => bif (E.tab e).isSome && isZero hi && isZero mx then k .emp [] [] else none
      | _, _, _ => none
    | none => match bnd lo, bnd hi with
      | some l, some h => match ti.kind, x with
        | .str, .pv .str s => cutList s l h fun s' => k (.pv .str s') [] []
        | .slice e, .pv (.sl a) xs => match E.tab e with
          | some te => if te.size = a.size then cutList xs l h fun xs' => k (.pv (.sl a) xs') [] [] else none
          | none => none
        | .slice e, .sl b win => match E.tab e with
          | some te => match look b with
            | .row t' xs _ _ => if te.size = t'.size then match win with
              | none => cutWin 0 xs.length l h fun e n => k (.sl b (some (e, n))) [] [b]
              | some (e, n) => cutWin e n l h fun e' n' => k (.sl b (some (e', n'))) [] [b]
              else none
            | _ => none
          | none => none
        | .slice e, .nils => match E.tab e, l, h with
          | some _, none, none => k .nils [] []
          | _, _, _ => none
        | .arr n e, .ptr b c => match E.tab e, l, h with
          | some te, none, none => k (.asl b c n te.size) [] []
          | _, _, _ => none
        | _, _ => none
      | _, _ => none

def elemsOf (t : Ty) (look : Look) (x : SV) : Option (List t.D × List Nat) := match x with
  | .nils | .emp => some ([], [])
  | .pv (.sl a) xs => (castTy (.sl a) (.sl t) xs).map fun xs => (xs, [])
  | .pv .str s => (castTy (.sl (.int .u8)) (.sl t) (s.map fun b => (b.toNat : Int))).map fun xs => (xs, [])
  | .sl i none => match look i with
    | .row a xs _ _ => (castTy (.sl a) (.sl t) xs).map fun xs => (xs, [i])
    | _ => none
  | .sl i (some (e, n)) => match look i with
    | .row a xs _ _ => (castTy (.sl a) (.sl t) ((xs.drop e).take n)).map fun xs => (xs, [i])
    | _ => none
  | .asl i c n m => match look i with
    | .box es _ => match skip es c with
      | some (.pv (.arr n' a) xs :: _) => if n' = n ∧ a.size = m then (castTy (.sl a) (.sl t) xs).map fun xs => (xs, [i]) else none
      | _ => none
    | _ => none
  | _ => none

def seqKind (o : Option TI) : Bool := match o with
  | some { kind := .slice _, .. } => true
  | some { kind := .str, .. } => true
  | _ => false

def xappend (E : Env R) (st xt : Nat) (look : Look) (p : Nat) (s x : SV) (k : KOp R) : Option R := if seqKind (E.tab xt) = false then none else match E.tab st with
  | some { kind := .slice e, .. } => match E.tab e with
    | some { ty := some t, bytes := bytes, .. } => match elemsOf t look x with
      | some (ys, d) => match s with
        | .nils | .emp => bif decide (ys.length ≤ LIM) && decide (ys.length * bytes ≤ LIM) then k (.sl p none) [(p, .row t ys e true)] d else none
        | .sl i _ => match look i with
          | .row _ _ ety _ => if ety = e then match elemsOf t look s with
            | some (xs, d') => bif decide (xs.length + ys.length ≤ LIM) && decide ((xs.length + ys.length) * bytes ≤ LIM) then k (.sl p none) [(i, .dead), (p, .row t (xs ++ ys) e true)] (i :: d' ++ d) else none
            | none => none
            else none
          | _ => none
        | _ => none
      | none => none
    | _ => none
  | _ => none

def lenOf (look : Look) (x : SV) : Option (Nat × List Nat) := match x with
  | .pv .str s => some (s.length, [])
  | .pv (.sl _) xs => some (xs.length, [])
  | .pv (.arr n _) _ => some (n, [])
  | .agg [.pv (.arr n _) _] => some (n, [])
  | .nils | .emp | .nilm => some (0, [])
  | .sl i none => match look i with
    | .row _ xs _ _ => some (xs.length, [i])
    | _ => none
  | .sl _ (some (_, n)) => some (n, [])
  | .mapr i => match look i with
    | .map _ _ es => some (es.length, [i])
    | _ => none
  | _ => none

def lenKind : TK → SV → Bool
  | .str, .pv .str _ => true
  | .slice _, .pv (.sl _) _ | .slice _, .nils | .slice _, .emp | .slice _, .sl _ _ => true
  | .arr n _, .agg [.pv (.arr m _) _] => n == m
  | .map _ _, .nilm | .map _ _, .mapr _ => true
  | _, _ => false

def xcopy (E : Env R) (dt : Nat) (look : Look) (d s : SV) (k : KOp R) : Option R := match E.tab dt with
  | some { kind := .slice e, .. } => match E.tyOf e with
    | some t => match elemsOf t look s with
      | some (ys, tch) => match d with
        | .sl i none => match look i with
          | .row a xs ety gr => match castTy (.sl t) (.sl a) ys with
            | some ys => k (.pv (.int .i64) ((min ys.length xs.length : Nat) : Int)) [(i, .row a (ys.take xs.length ++ xs.drop ys.length) ety gr)] (i :: tch)
            | none => none
          | _ => none
        | .asl i c n' m => match look i with
          | .box es ety => match skip es c with
            | some (.pv (.arr n a) xs :: _) => if n = n' ∧ a.size = m then match castTy (.sl t) (.sl a) ys with
              | some ys => match splice es c [.pv (.arr n a) (ys.take n ++ xs.drop ys.length)] with
                | some es' => k (.pv (.int .i64) ((min ys.length n : Nat) : Int)) [(i, .box es' ety)] (i :: tch)
                | none => none
              | none => none
              else none
            | _ => none
          | _ => none
        | _ => none
      | none => none
    | none => none
  | _ => none

def eqEnts : List SV → List SV → List SV → Option Bool
  | [], [], [] => some true
  | .pv (.int _) _ :: zs, .pv (.int j) (a : Int) :: xs, .pv (.int l) (b : Int) :: ys => if j = l then (eqEnts zs xs ys).map (decide (a = b) && ·) else none
  | .pv .str _ :: zs, .pv .str (a : List UInt8) :: xs, .pv .str (b : List UInt8) :: ys => (eqEnts zs xs ys).map (decide (a = b) && ·)
  | .pv .bool _ :: zs, .pv .bool (a : Bool) :: xs, .pv .bool (b : Bool) :: ys => (eqEnts zs xs ys).map ((a == b) && ·)
  | _, _, _ => none

def xeq (ti : TI) (yc : Bool) (look : Look) (x y : SV) (kb : Bool → List Nat → Option R) : Option R := match ti.kind with
  | .bool => match x, y with
    | .pv .bool a, .pv .bool b => kb (a == b) []
    | _, _ => none
  | .ptr _ => match x, y with
    | .pv (.ptr _) o, .nilp => kb o.isNone []
    | .ptr _ _, .nilp => kb false []
    | .nilp, .nilp => kb true []
    | _, _ => none
  | .slice _ => match x, y with
    | .nils, .nils => kb true []
    | .sl i none, .nils => match look i with
      | .row _ xs _ _ => bif xs.isEmpty then none else kb false [i]
      | _ => none
    | _, _ => none
  | .iface => match x, y, yc with
    | .pv .err b, .nili, true => kb b []
    | _, _, _ => none
  | .struct _ => match x, y, ti.eqs with
    | .agg xs, .agg ys, true => match eqEnts ti.zero xs ys with
      | some b => kb b []
      | none => none
    | _, _, _ => none
  | _ => none

def isNilIf : Operand → Bool
  | .const .nilIface => true
  | _ => false

def xbin (E : Env R) (op : BinOp) (t : Nat) (yc : Bool) (look : Look) (x y : SV) (k : SV → List Nat → Option R) : Option R := match x, y with
  | .pv (.int kx) a, .pv (.int ky) b => match op with
    | .shl => bif decide (0 ≤ b) then k (.pv (.int kx) (kx.wrap (a * 2 ^ (min b.toNat kx.bits)))) [] else none
    | .shr => bif decide (0 ≤ b) then k (.pv (.int kx) (a.fdiv (2 ^ (min b.toNat kx.bits)))) [] else none
    | _ => if kx = ky then match op with
      | .add => k (.pv (.int kx) (kx.wrap (a + b))) []
      | .sub => k (.pv (.int kx) (kx.wrap (a - b))) []
      | .mul => k (.pv (.int kx) (kx.wrap (a * b))) []
      | .quo => bif decide (b = 0) then none else k (.pv (.int kx) (kx.wrap (a.tdiv b))) []
      | .rem => bif decide (b = 0) then none else k (.pv (.int kx) (a.tmod b)) []
      | .and => k (.pv (.int kx) (ibits .and kx a b)) []
      | .or => k (.pv (.int kx) (ibits .or kx a b)) []
      | .xor => k (.pv (.int kx) (ibits .xor kx a b)) []
      | .andNot => k (.pv (.int kx) (ibits .andNot kx a b)) []
      | .eql => k (.pv .bool (decide (a = b))) []
      | .neq => k (.pv .bool (!decide (a = b))) []
      | .lss => k (.pv .bool (decide (a < b))) []
      | .leq => k (.pv .bool (decide (a ≤ b))) []
      | .gtr => k (.pv .bool (decide (b < a))) []
      | .geq => k (.pv .bool (decide (b ≤ a))) []
      | _ => none
      else none
  | .pv .str a, .pv .str b => match op with
    | .add => bif decide (a.length + b.length ≤ LIM) then k (.pv .str (a ++ b)) [] else none
    | .eql => k (.pv .bool (decide (a = b))) []
    | .neq => k (.pv .bool (!decide (a = b))) []
    | .lss => k (.pv .bool (strLt a b)) []
    | .leq => k (.pv .bool (strLt a b || decide (a = b))) []
    | .gtr => k (.pv .bool (!(strLt a b || decide (a = b)))) []
    | .geq => k (.pv .bool (!strLt a b)) []
    | _ => none
  | x, y => match E.tab t with
    | some ti => xeq ti yc look x y fun b d => match op with
      | .eql => k (.pv .bool b) d
      | .neq => k (.pv .bool (!b)) d
      | _ => none
    | none => none

def xun (op : UnOp) (x : SV) (k : SV → Option R) : Option R := match op, x with
  | .neg, .pv (.int j) n => k (.pv (.int j) (j.wrap (0 - n)))
  | .xor, .pv (.int j) n => k (.pv (.int j) (ibits .xor j (if j.signed then -1 else j.max) n))
  | .not, .pv .bool b => k (.pv .bool (!b))
  | _, _ => none

def bytesOf (xs : List Int) : List UInt8 := xs.map fun n => UInt8.ofNat n.toNat

def xconv (E : Env R) (src dst : Nat) (look : Look) (p : Nat) (x : SV) (k : KOp R) : Option R := match E.tab src, E.tab dst with
  | some si, some di => match di.kind, x with
    | .int j, .pv (.int _) n => k (.pv (.int j) (j.wrap n)) [] []
    | .str, .pv .str s => k (.pv .str s) [] []
    | .slice e, .pv .str s => match E.tab e with
      | some { kind := .int .u8, .. } => bif decide (s.length ≤ LIM) then k (.sl p none) [(p, .row (.int .u8) (s.map fun b => (b.toNat : Int)) e true)] [] else none
      | _ => none
    | .str, x => match si.kind with
      | .slice e => match E.tab e with
        | some { kind := .int .u8, .. } => match elemsOf (.int .u8) look x with
          | some (xs, d) => k (.pv .str (bytesOf xs)) [] d
          | none => none
        | _ => none
      | _ => none
    | _, _ => none
  | _, _ => none

def partsOf (E : Env R) (t : Ty) (look : Look) : Nat → List (Nat × SV) → Option (List t.D × List Nat)
  | _, [] => some ([], [])
  | i, (j, v) :: ps => if i = j then match entsOf v with
      | some ev => match pubs E.tyOf look ev with
        | some (es, d) => match whole t es with
          | some x => match partsOf E t look (i + 1) ps with
            | some (xs, d') => some (x :: xs, d ++ d')
            | none => none
          | none => none
        | none => none
      | none => none
    else none

def xbuildSlice (E : Env R) (t len : Nat) (look : Look) (p : Nat) (parts : List (Nat × SV)) (k : KOp R) : Option R := match E.tab t with
  | some { kind := .slice e, .. } => match E.tyOf e with
    | some te => match partsOf E te look 0 parts with
      | some (xs, d) => if parts.length = len ∧ len * te.size ≤ 16777216 then k (.sl p none) (kills d ++ [(p, .row te xs e false)]) d else none
      | none => none
    | none => none
  | _ => none

def fillS (tab : Nat → Option TI) (offs : List (Nat × Nat)) : List SV → List (Nat × SV) → Option (List SV)
  | es, [] => some es
  | es, (f, v) :: ps => match offOf offs f with
    | some (off, ft) => match entsOf v, tab ft with
      | some ev, some ti => if esizes ev = ti.size then match splice es off ev with
        | some es' => fillS tab offs es' ps
        | none => none
        else none
      | _, _ => none
    | none => none

def fillA (a : Ty) : List a.D → List (Nat × SV) → Option (List a.D)
  | xs, [] => some xs
  | xs, (i, v) :: ps => if i < xs.length then match entsOf v with
    | some ev => match whole a ev with
      | some x => fillA a (xs.set i x) ps
      | none => none
    | none => none
    else none

def xbuild (E : Env R) (t : Nat) (parts : List (Nat × SV)) (k : KOp R) : Option R := match E.tab t with
  | some ti => match ti.kind with
    | .struct offs => if offs.all (fun q => (E.tab q.2).isSome) = true then match fillS E.tab offs ti.zero parts with
      | some es => k (.agg es) [] []
      | none => none
      else none
    | .arr _ e => match E.tab e, ti.zero with
      | some te, [.pv (.arr n a) xs] => if te.size = a.size then match fillA a xs parts with
        | some xs => k (.agg [.pv (.arr n a) xs]) [] []
        | none => none
        else none
      | _, _ => none
    | _ => none
  | none => none

def svOf : Value → SV
  | .int k n => .pv (.int k) n
  | .bool b => .pv .bool b
  | .string s => .pv .str s.data.toList
  | .pointer none => .nilp
  | .slice none 0 0 => .nils
  | .map none => .nilm
  | .nilFunc => .nilf
  | .nilIface => .nili
  | .func (.func f) a b => match a.toList, b.toList with
    | [], [] => .fn f []
    | _, _ => .dead
  | .tuple a => match a.toList with
    | [] => .undef
    | _ => .dead
  | _ => .dead

def ev (fr : List SV) : Operand → SV
  | .tmp t => fr.getD t .dead
  | .const v => svOf v
  | .func f => .fn f []
  | .global _ => .dead

def xmakeSlice (E : Env R) (t : Nat) (p : Nat) (l c : SV) (k : KOp R) : Option R := match E.tab t with
  | some { kind := .slice e, .. } => match E.tab e with
    | some { ty := some te, bytes := bytes, .. } => match l, c with
      | .pv (.int .i64) n, .pv (.int .i64) m =>
        bif decide (0 ≤ m) && decide (m.toNat ≤ LIM) && decide (m.toNat * bytes ≤ LIM) then
          (bif decide (n = m) then k (.sl p none) [(p, .row te (List.replicate n.toNat te.dflt) e false)] []
           else bif decide (n = 0) then k (.sl p none) [(p, .row te [] e true)] [] else none)
        else none
      | _, _ => none
    | _ => none
  | _ => none

def mapTys (E : Env R) (t : Nat) : Option (Ty × Ty) := match E.tab t with
  | some { kind := .map k v, .. } => match E.tab k, E.tab v with
    | some { kind := .int _, ty := some (.int j), .. }, some { ty := some b, .. } => some (.int j, b)
    | some { kind := .str, ty := some .str, .. }, some { ty := some b, .. } => some (.str, b)
    | _, _ => none
  | _ => none

def lkV (vt : Ty) (ok : Bool) (x : vt.D) (f : Bool) : SV := match ok with
  | true => .tup [match vt.isAgg with | true => .agg (flat vt x) | false => .pv vt x, .pv .bool f]
  | false => match vt.isAgg with | true => .agg (flat vt x) | false => .pv vt x

def xlookup (E : Env R) (t : Nat) (look : Look) (x ix : SV) (ok : Bool) (k : KOp R) : Option R := match mapTys E t with
  | none => none
  | some (a, b) => match x with
    | .mapr i => match look i with
      | .map kt vt es => if a = kt ∧ b = vt then match one kt ix, keyEq kt with
        | some key, some eq =>
          k (lkV vt ok ((mget eq es key).getD vt.dflt) (mget eq es key).isSome) [] [i]
        | _, _ => none
        else none
      | _ => none
    | _ => none

def isAggV : SV → Bool
  | .agg _ => true
  | _ => false

def xmapUpdate (E : Env R) (t : Nat) (look : Look) (x ix v : SV) (k : KOp R) : Option R := match mapTys E t with
  | none => none
  | some (a, b) => match x with
    | .mapr i => match look i with
      | .map kt vt es => if a = kt ∧ b = vt ∧ isAggV v = vt.isAgg then match one kt ix, keyEq kt, entsOf v with
        | some key, some eq, some ev => match whole vt ev with
          | some y => k .undef [(i, .map kt vt (mset eq es key y))] [i]
          | none => none
        | _, _, _ => none
        else none
      | _ => none
    | _ => none

def xminmax (isMax : Bool) : List SV → Option SV
  | [.pv (.int j) (a : Int), .pv (.int l) (b : Int)] => if j = l then some (.pv (.int j) (if isMax then (if b > a then b else a) else (if b < a then b else a))) else none
  | [.pv (.int j) (a : Int), .pv (.int l) (b : Int), .pv (.int m) (c : Int)] =>
    if j = l ∧ l = m then some (.pv (.int j) (if isMax then (let d := if b > a then b else a; if c > d then c else d) else (let d := if b < a then b else a; if c < d then c else d))) else none
  | _ => none

def xbuiltin (E : Env R) (b : Builtin) (ats : Array Nat) (look : Look) (p : Nat) (args : List SV) (k : KOp R) : Option R := match b with
  | .append => match args, ats.toList with
    | [s, x], [st, xt] => xappend E st xt look p s x k
    | _, _ => none
  | .len => match args, ats.toList with
    | [x], [t] => match E.tab t, lenOf look x with
      | some ti, some (n, d) => if lenKind ti.kind x then k (.pv (.int .i64) (n : Int)) [] d else none
      | _, _ => none
    | _, _ => none
  | .copy => match args, ats.toList with
    | [d, s], dt :: _ => xcopy E dt look d s k
    | _, _ => none
  | .min => match xminmax false args with
    | some v => k v [] []
    | none => none
  | .max => match xminmax true args with
    | some v => k v [] []
    | none => none
  | _ => none

def xop (E : Env R) (op : Op) (ρ : Operand → SV) (look : Look) (p : Nat) (k : KOp R) : Option R := match op with
  | .move x | .assign x => k (ρ x) [] []
  | .pick c a b => match ρ c with
    | .pv .bool t => bif t then k (ρ a) [] [] else k (ρ b) [] []
    | _ => none
  | .alloc t => match E.tab t with
    | some ti => k (.ptr p 0) [(p, .box ti.zero t)] []
    | none => none
  | .box t x => match E.tab t with
    | some ti => match entsOf (ρ x) with
      | some ev => if esizes ev = ti.size then k (.ptr p 0) [(p, .box ev t)] [] else none
      | none => none
    | none => none
  | .build t parts => xbuild E t (parts.toList.map fun q => (q.1, ρ q.2)) k
  | .buildSlice t len parts => xbuildSlice E t len look p (parts.toList.map fun q => (q.1, ρ q.2)) k
  | .load t a => match E.tab t with
    | some ti => xload ti look (ρ a) k
    | none => none
  | .store t a v => match E.tab t with
    | some ti => xstore E ti look (ρ a) (ρ v) k
    | none => none
  | .nilCheck x => match ρ x with
    | .ptr i c => k (.ptr i c) [] []
    | .rptr i e j => k (.rptr i e j) [] []
    | .aptr i c n m e j => k (.aptr i c n m e j) [] []
    | .pv (.ptr t) o => deref o fun x => k (.pv (.ptr t) (some x)) [] []
    | .fn f cs => k (.fn f cs) [] []
    | _ => none
  | .binOp op t x y _ => xbin E op t (isNilIf y) look (ρ x) (ρ y) fun v d => k v [] d
  | .unOp op _ x => xun op (ρ x) fun v => k v [] []
  | .convert s d x => xconv E s d look p (ρ x) k
  | .makeFunc (.func f) first caps => match first.toList with
    | [] => k (.fn f (caps.toList.map ρ)) [] []
    | _ => none
  | .makeMap t none => match mapTys E t with
    | some (a, b) => k (.mapr p) [(p, .map a b [])] []
    | none => none
  | .makeSlice t l c => xmakeSlice E t p (ρ l) (ρ c) k
  | .slice t x lo hi mx => xslice E t look (ρ x) (lo.map ρ) (hi.map ρ) (mx.map ρ) k
  | .fieldAddr s x f => xfieldAddr E s (ρ x) f k
  | .field t x f => match E.tab t, ρ x with
    | some { kind := .struct offs, .. }, .agg es => match offOf offs f with
      | some (off, ft) => match E.tab ft with
        | some ti => loadE ti (skip es off) fun v => k v [] []
        | none => none
      | none => none
    | _, _ => none
  | .indexAddr t x ix => xindexAddr E t look (ρ x) (ρ ix) k
  | .index t x ix => xindex E t (ρ x) (ρ ix) k
  | .lookup t x ix ok => xlookup E t look (ρ x) (ρ ix) ok k
  | .mapUpdate t m key v | .insert t m key v => xmapUpdate E t look (ρ m) (ρ key) (ρ v) k
  | .extract t ix => match ρ t with
    | .tup vs => match vs[ix]? with
      | some v => k v [] []
      | none => none
    | _ => none
  | .call { callee := .builtin b, args := args, argTypes := ats } => xbuiltin E b ats look p (args.toList.map ρ) k
  | .call { callee := .value f, args := args, .. } => match ρ f with
    | .fn g caps => E.con g (args.toList.map ρ ++ caps) look p k
    | _ => none
  | _ => none

def put (fr : List SV) (dst : Option Nat) (v : SV) : List SV := match dst with
  | some d => fr.set d v
  | none => fr

def slotOf (ops : List Oper) (fr : List SV) (j : Nat) : SV := match ops[j]? with
  | some o => match o.dst with
    | some d => fr.getD d .dead
    | none => .dead
  | none => .dead

structure Rec where
  n : Nat
  wr : List Nat
  rd : List Nat
  ws : List Nat
  rs : List Nat

def slotsOf (os : List Operand) : List Nat := os.filterMap fun | .tmp t => some t | _ => none

def gslot (all : List Oper) (g : Option (Nat × Bool)) : List Nat := match g with
  | some (j, _) => match all[j]? with
    | some o => o.dst.toList
    | none => []
  | none => []

def recOf (all : List Oper) (n : Nat) (o : Oper) (d : Delta) (t : List Nat) : Rec :=
  ⟨n, d.map (·.1), t, o.dst.toList, gslot all o.guard ++ slotsOf o.op.operands.toList⟩

def xops (E : Env R) (all : List Oper) : Nat → List Oper → List SV → List Blk → List Rec → (List SV → List Blk → List Rec → Option R) → Option R
  | _, [], fr, hp, rs, k => k fr hp rs
  | n, o :: rest, fr, hp, rs, k => match o.guard with
    | none => xop E o.op (ev fr) (blkOf hp) hp.length fun v d t => xops E all (n + 1) rest (put fr o.dst v) (applyD hp d) (recOf all n o d t :: rs) k
    | some (j, want) => match slotOf all fr j with
      | .pv .bool b =>
        bif (match want with | true => b | false => !b) then
          xop E o.op (ev fr) (blkOf hp) hp.length fun v d t => xops E all (n + 1) rest (put fr o.dst v) (applyD hp d) (recOf all n o d t :: rs) k
        else xops E all (n + 1) rest (put fr o.dst .undef) hp (recOf all n o [] [] :: rs) k
      | .undef => xops E all (n + 1) rest (put fr o.dst .undef) hp (recOf all n o [] [] :: rs) k
      | _ => none

def apartOk (before : List Nat) (a b : Rec) : Bool :=
  (before.getD (max a.n b.n) 0).testBit (min a.n b.n) ||
  (a.wr.all (fun i => !(b.wr.contains i) && !(b.rd.contains i)) && b.wr.all (fun i => !(a.rd.contains i)) &&
   a.ws.all (fun i => !(b.ws.contains i) && !(b.rs.contains i)) && b.ws.all (fun i => !(a.rs.contains i)))

def allApart (before : List Nat) : List Rec → Bool
  | [] => true
  | a :: rs => rs.all (apartOk before a) && allApart before rs

def edgesOk : Nat → List Oper → Bool
  | _, [] => true
  | n, o :: os => o.after.toList.all (fun e => !(Region.binds .any e) || decide (e.on < n)) && edgesOk (n + 1) os

def xregion (E : Env R) (ops : Array Oper) (draw : Bool) (fr : List SV) (hp : List Blk) (k : List SV → List Blk → Option R) : Option R :=
  xops E ops.toList 0 ops.toList fr hp [] fun fr hp rs => match draw with
    | false => k fr hp
    | true => bif edgesOk 0 ops.toList && allApart (Region.before ops).toList rs then k fr hp else none
end
end Go.AM
namespace Go.AM

structure Hint where
  live : List Nat
  adopt : List (Nat × List Nat × Ty × Nat) := []
  pubd : List Nat := []

structure Cuts where
  bef : Nat → Option Hint
  aft : Nat → Option Hint

def idxOf (l : List Nat) (i : Nat) : Option Nat := match l with
  | [] => none
  | j :: l => if j = i then some 0 else (idxOf l i).map (· + 1)

def see (s : List Nat) (i : Nat) : List Nat := if s.contains i then s else s ++ [i]

def refs (look : Look) : SV → List Nat → List Nat
  | .ptr i _, s | .rptr i _ _, s | .aptr i _ _ _ _ _, s | .sl i _, s | .asl i _ _ _, s | .mapr i, s => match look i with
    | .dead => s
    | _ => see s i
  | .fn _ cs, s => refsL look cs s
  | .agg cs, s => refsL look cs s
  | .tup cs, s => refsL look cs s
  | .iface _ v, s => refs look v s
  | _, s => s
where refsL (look : Look) : List SV → List Nat → List Nat
  | [], s => s
  | v :: vs, s => refsL look vs (refs look v s)

def ren (σ : Nat → Option Nat) : SV → SV
  | .ptr i c => match σ i with | some i' => .ptr i' c | none => .dead
  | .rptr i e j => match σ i with | some i' => .rptr i' e j | none => .dead
  | .aptr i c n k e j => match σ i with | some i' => .aptr i' c n k e j | none => .dead
  | .sl i w => match σ i with | some i' => .sl i' w | none => .dead
  | .asl i c n k => match σ i with | some i' => .asl i' c n k | none => .dead
  | .mapr i => match σ i with | some i' => .mapr i' | none => .dead
  | .fn f cs => .fn f (renL σ cs)
  | .agg cs => .agg (renL σ cs)
  | .tup cs => .tup (renL σ cs)
  | .iface t v => .iface t (ren σ v)
  | v => v
where renL (σ : Nat → Option Nat) : List SV → List SV
  | [] => []
  | v :: vs => ren σ v :: renL σ vs

def liveIdx (look : Look) (s : List Nat) (i : Nat) : Option Nat := match look i with
  | .dead => none
  | _ => idxOf s i

def blkRefs (look : Look) : Blk → List Nat → List Nat
  | .box es _, s => refs.refsL look es s
  | _, s => s

def blkRen (σ : Nat → Option Nat) : Blk → Blk
  | .box es t => .box (ren.renL σ es) t
  | b => b

def close (look : Look) : Nat → Nat → List Nat → List Nat
  | 0, _, s => s
  | n + 1, j, s => match s[j]? with
    | some i => close look n (j + 1) (blkRefs look (look i) s)
    | none => s

def pick (look : Look) (s : List Nat) : List Blk := s.map fun i => blkRen (liveIdx look s) (look i)

def FUEL : Nat := 400

def keepOnly (look : Look) (s : List Nat) (live : List Nat) : Nat → List SV → List SV
  | _, [] => []
  | n, v :: vs => (if live.contains n then ren (liveIdx look s) v else .dead) :: keepOnly look s live (n + 1) vs

def canon (n0 : Nat) (live : List Nat) (fr : List SV) (hp : List Blk) : List SV × List Blk :=
  let look := blkOf hp
  let s := close look FUEL 0 (refs.refsL look (live.map fun t => fr.getD t .dead) (List.range n0))
  (keepOnly look s live 0 fr, pick look s)

def adopt1 (fr : List SV) (hp : List Blk) (a : Nat × List Nat × Ty × Nat) : List SV × List Blk :=
  let rec go (hp : List Blk) (v : SV) : List Nat → List Blk
    | [] => hp
    | [c] => match v with
      | .ptr i c0 => match blkOf hp i with
        | .box es ety => match skip es (c0 + c) with
          | some (.nils :: _) => match splice es (c0 + c) [.sl hp.length none] with
            | some es' => setAt (hp ++ [.row a.2.2.1 [] a.2.2.2 true]) i (.box es' ety)
            | none => hp
          | _ => hp
        | _ => hp
      | _ => hp
    | c :: cs => match v with
      | .ptr i c0 => match blkOf hp i with
        | .box es _ => match skip es (c0 + c) with
          | some (w :: _) => go hp w cs
          | _ => hp
        | _ => hp
      | _ => hp
  match a.2.1 with
  | [] => match fr.getD a.1 .dead with
    | .nils => (fr.set a.1 (.sl hp.length none), hp ++ [.row a.2.2.1 [] a.2.2.2 true])
    | _ => (fr, hp)
  | cs => (fr, go hp (fr.getD a.1 .dead) cs)

def applyHint (h : Hint) (n0 : Nat) (fr : List SV) (hp : List Blk) : List SV × List Blk :=
  let s := h.adopt.foldl (fun s a => adopt1 s.1 s.2 a) (fr, hp)
  canon n0 h.live s.1 s.2

section
variable {R : Type}

def fixSlot (all : List Oper) (fr : List SV) (j : Nat) (b : Bool) : List SV := match all[j]? with
  | some o => match o.dst with
    | some d => fr.set d (.pv .bool b)
    | none => fr
  | none => fr

def xops2 (E : Env R) (all : List Oper) : Nat → List Oper → List SV → List Blk → List Rec → (List SV → List Blk → List Rec → Option R) → Option R
  | _, [], fr, hp, rs, k => k fr hp rs
  | n, o :: rest, fr, hp, rs, k => match o.guard with
    | none => xop E o.op (ev fr) (blkOf hp) hp.length fun v d t => xops2 E all (n + 1) rest (put fr o.dst v) (applyD hp d) (recOf all n o d t :: rs) k
    | some (j, want) => match slotOf all fr j with
      | .pv .bool b =>
        bif (match want with | true => b | false => !b) then
          xop E o.op (ev (fixSlot all fr j want)) (blkOf hp) hp.length fun v d t => xops2 E all (n + 1) rest (put (fixSlot all fr j want) o.dst v) (applyD hp d) (recOf all n o d t :: rs) k
        else xops2 E all (n + 1) rest (put (fixSlot all fr j (!want)) o.dst .undef) hp (recOf all n o [] [] :: rs) k
      | .undef => xops2 E all (n + 1) rest (put fr o.dst .undef) hp (recOf all n o [] [] :: rs) k
      | _ => none

theorem set_same {α : Type} : ∀ (l : List α) (d : Nat) (x y : α), l.getD d y = x → d < l.length → l.set d x = l
  | [], _, _, _, _, h => by simp at h
  | a :: l, 0, x, y, h, _ => by simp at h; simp [h]
  | a :: l, d + 1, x, y, h, hd => by
    simp only [List.set_cons_succ]
    rw [set_same l d x y (by simpa using h) (by simpa using hd)]

theorem fixSlot_eq {all : List Oper} {fr : List SV} {j : Nat} {b : Bool} (h : slotOf all fr j = .pv .bool b) : fixSlot all fr j b = fr := by
  unfold slotOf at h
  unfold fixSlot
  split
  · rename_i o ho
    rw [ho] at h
    simp only at h
    split
    · rename_i d hd
      rw [hd] at h
      simp only at h
      refine set_same fr d _ .dead h ?_
      rcases Nat.lt_or_ge d fr.length with h1 | h1
      · exact h1
      · rw [List.getD_eq_getElem?_getD, List.getElem?_eq_none h1] at h; cases h
    · rfl
  · rfl

theorem xops2_eq (E : Env R) (all : List Oper) : ∀ (os : List Oper) (n : Nat) (fr : List SV) (hp : List Blk) (rs : List Rec) (k : List SV → List Blk → List Rec → Option R), xops2 E all n os fr hp rs k = xops E all n os fr hp rs k
  | [], n, fr, hp, rs, k => by rw [xops2, xops]
  | o :: os, n, fr, hp, rs, k => by
    have ih := xops2_eq E all os
    rw [xops2, xops]
    cases o.guard with
    | none => simp only [ih]
    | some g =>
      obtain ⟨j, want⟩ := g
      simp only
      cases hs : slotOf all fr j with
      | pv t b =>
        cases t with
        | bool =>
          change Bool at b
          simp only
          have key : ∀ w : Bool, b = w → fixSlot all fr j w = fr := fun w e => fixSlot_eq (by rw [hs, e])
          cases want <;> cases b <;> simp only [Bool.not_false, Bool.not_true, cond_true, cond_false, ih, key _ rfl]
        | _ => rfl
      | undef => simp only [ih]
      | _ => rfl

def xregion2 (E : Env R) (ops : Array Oper) (draw : Bool) (fr : List SV) (hp : List Blk) (k : List SV → List Blk → Option R) : Option R :=
  xops2 E ops.toList 0 ops.toList fr hp [] fun fr hp rs => match draw with
    | false => k fr hp
    | true => bif edgesOk 0 ops.toList && allApart (Region.before ops).toList rs then k fr hp else none

theorem xregion2_eq (E : Env R) (ops : Array Oper) (draw : Bool) (fr : List SV) (hp : List Blk) (k : List SV → List Blk → Option R) : xregion2 E ops draw fr hp k = xregion E ops draw fr hp k := xops2_eq E _ _ _ _ _ _ _

def xgo (E : Env R) (C : Cuts) (n0 : Nat) (call : List Item → List SV → List Blk → Option R) (fin : List SV → List Blk → Option R) : Nat → Bool → List Item → List SV → List Blk → Option R
  | 0, _, _, _, _ => none
  | d + 1, first, todo, fr, hp => match todo with
    | [] => fin fr hp
    | .code c :: k => match c with
      | .skip => xgo E C n0 call fin d first k fr hp
      | .label _ => xgo E C n0 call fin d first k fr hp
      | .seq a b => xgo E C n0 call fin d first (.code a :: .code b :: k) fr hp
      | .block id c => xgo E C n0 call fin d first (.code c :: .inBlock id :: k) fr hp
      | .loop c => xgo E C n0 call fin d first (.code c :: .inLoop c :: k) fr hp
      | .scope c => xgo E C n0 call fin d first (.code c :: .inScope c :: k) fr hp
      | .cond c x y => match ev fr c with
        | .pv .bool b => bif b then xgo E C n0 call fin d first (.code x :: k) fr hp else xgo E C n0 call fin d first (.code y :: k) fr hp
        | _ => none
      | .exit id => match exitTo id k with
        | some k' => xgo E C n0 call fin d first k' fr hp
        | none => none
      | .goto l => match gotoIn l k with
        | some k' => xgo E C n0 call fin d first k' fr hp
        | none => none
      | .ret => fin fr hp
      | .region q ops draw => match first, C.bef q with
        | false, some h => call todo (applyHint h n0 fr hp).1 (applyHint h n0 fr hp).2
        | _, _ => xregion2 E ops draw fr hp fun fr hp => match C.aft q with
          | some h => call k (applyHint h n0 fr hp).1 (applyHint h n0 fr hp).2
          | none => xgo E C n0 call fin d false k fr hp
      | _ => none
    | .inLoop c :: k => xgo E C n0 call fin d false (.code c :: .inLoop c :: k) fr hp
    | .inBlock _ :: k => xgo E C n0 call fin d first k fr hp
    | .inScope _ :: k => xgo E C n0 call fin d first k fr hp
    | _ => none

def DEEP : Nat := 4000

def xrun (E : Env R) (C : Cuts) (n0 : Nat) (fin : List SV → List Blk → Option R) : Nat → List Item → List SV → List Blk → Option R
  | 0, _, _, _ => none
  | n + 1, todo, fr, hp => xgo E C n0 (xrun E C n0 fin n) fin DEEP true todo fr hp

def xres (E : Env R) (rs : List ResultVar) (fr : List SV) (hp : List Blk) (k : List SV → Option R) : Option R := match rs with
  | [] => k []
  | .tmp t :: rs => xres E rs fr hp fun vs => k (fr.getD t .dead :: vs)
  | .cell a t :: rs => match E.tab t with
    | some ti => xload ti (blkOf hp) (fr.getD a .dead) fun v _ _ => xres E rs fr hp fun vs => k (v :: vs)
    | none => none

def tupOf : List SV → SV
  | [v] => v
  | vs => .tup vs

def finCanon (n0 : Nat) (v : SV) (hp : List Blk) (k : SV → List Blk → Option R) : Option R :=
  let look := blkOf hp
  let s := close look FUEL 0 (refs look v (List.range n0))
  k (ren (liveIdx look s) v) (pick look s)

def pubV (tyOf : Nat → Option Ty) (look : Look) : SV → Option (SV × List Nat)
  | .tup vs => match pubs tyOf look vs with
    | some (vs', d) => some (.tup vs', d)
    | none => none
  | .agg vs => match pubs tyOf look vs with
    | some (vs', d) => some (.agg vs', d)
    | none => none
  | v => pub1 tyOf look 6 v

def norm1 (o : Option Ty) (v : SV) : Option SV := match o with
  | none => some v
  | some T => match entsOf v with
    | some es => match whole T es with
      | some x => if isAggV v = T.isAgg then (match T.isAgg with | true => some (.agg (flat T x)) | false => some (.pv T x)) else none
      | none => none
    | none => none

def normL : List (Option Ty) → List SV → Option (List SV)
  | o :: os, v :: vs => match norm1 o v with
    | some w => match normL os vs with
      | some ws => some (w :: ws)
      | none => none
    | none => none
  | _, vs => some vs

def normV (ts : List (Option Ty)) (v : SV) : Option SV := match v with
  | .tup vs => match normL ts vs with
    | some ws => some (.tup ws)
    | none => none
  | v => match ts with
    | [o] => norm1 o v
    | _ => some v

def finish (E : Env R) (fn : Func) (n0 : Nat) (pb : Option (List (Option Ty))) (K : SV → List Blk → Option R) (fr : List SV) (hp : List Blk) : Option R :=
  xres E fn.results.toList fr hp fun vs => match pb with
    | none => finCanon n0 (tupOf vs) hp K
    | some ts => match pubV E.tyOf (blkOf hp) (tupOf vs) with
      | some (v, d) => match normV ts v with
        | some v => finCanon n0 v (applyD hp (kills d)) K
        | none => none
      | none => none

def bodyOf (fn : Func) : Code := match fn.body with
  | some c => c
  | none => .refuse ""

def start (fn : Func) (args : List SV) : List SV := args ++ List.replicate (fn.ntmps - args.length) .undef

def xfun (E : Env R) (C : Cuts) (fn : Func) (pb : Option (List (Option Ty))) (n : Nat) (args : List SV) (hp : List Blk) (K : SV → List Blk → Option R) : Option R :=
  xrun E C hp.length (finish E fn hp.length pb K) n [.code (bodyOf fn)] (start fn args) hp

def findTodo : Code → Nat → List Item → Option (List Item)
  | .region q' ops d, q, k => if q' = q then some (.code (.region q' ops d) :: k) else none
  | .seq a b, q, k => match findTodo a q (.code b :: k) with
    | some r => some r
    | none => findTodo b q k
  | .cond _ a b, q, k => match findTodo a q k with
    | some r => some r
    | none => findTodo b q k
  | .block id c, q, k => findTodo c q (.inBlock id :: k)
  | .loop c, q, k => findTodo c q (.inLoop c :: k)
  | .scope c, q, k => findTodo c q (.inScope c :: k)
  | _, _, _ => none

def atBef (fn : Func) (q : Nat) : List Item := (findTodo (bodyOf fn) q []).getD []
def atAft (fn : Func) (q : Nat) : List Item := (atBef fn q).tail

inductive Mode where
  | own | bor | pub

abbrev Con (R : Type) := List SV → List Blk → (SV → List Blk → Option R) → Option R

def bor1 (tyOf : Nat → Option Ty) (look : Look) : List Mode → List SV → Option (List SV × List Nat × List Nat)
  | m :: ms, v :: vs => match bor1 tyOf look ms vs with
    | some (vs', b, d) => match m with
      | .own => some (v :: vs', b, d)
      | .bor => match pubV tyOf look v with
        | some (w, b') => some (w :: vs', b' ++ b, d)
        | none => none
      | .pub => match pubV tyOf look v with
        | some (w, d') => some (w :: vs', b, d' ++ d)
        | none => none
    | none => none
  | _, vs => some (vs, [], [])

def flatSV : SV → Bool
  | .pv t _ => t.flatData
  | .tup vs => flatL vs
  | .agg vs => flatL vs
  | .fn _ vs => flatL vs
  | .iface _ v => flatSV v
  | _ => true
where flatL : List SV → Bool
  | [] => true
  | v :: vs => flatSV v && flatL vs

def flatBlk : Blk → Bool
  | .dead => true
  | .box es _ => flatSV.flatL es
  | .row t _ _ _ => t.flatData
  | .map kt vt _ => kt.flatData && vt.flatData

def raw : SV → List Nat
  | .ptr i _ | .rptr i _ _ | .aptr i _ _ _ _ _ | .sl i _ | .asl i _ _ _ | .mapr i => [i]
  | .fn _ cs => rawL cs
  | .agg cs => rawL cs
  | .tup cs => rawL cs
  | .iface _ v => raw v
  | _ => []
where rawL : List SV → List Nat
  | [] => []
  | v :: vs => raw v ++ rawL vs

def rawB : Blk → List Nat
  | .box es _ => raw.rawL es
  | _ => []

def news (p : Nat) : List Blk → Delta
  | [] => []
  | B :: bs => (p, B) :: news (p + 1) bs

def olds : List Nat → List Blk → Delta
  | i :: s, B :: bs => (i, B) :: olds s bs
  | _, _ => []

def backTo (s : List Nat) (p j : Nat) : Option Nat := if j < s.length then some (s.getD j 0) else some (p + (j - s.length))

def lift (tyOf : Nat → Option Ty) (ms : List Mode) (F : Con R) (args : List SV) (look : Look) (p : Nat) (k : KOp R) : Option R :=
  match bor1 tyOf look ms args with
  | some (args, b, d) =>
    let s := close look FUEL 0 (refs.refsL look args [])
    if s.any (fun i => b.contains i || d.contains i) then none else
    F (ren.renL (liveIdx look s) args) (pick look s) fun v L =>
      if b.isEmpty || (flatSV v && L.all flatBlk) then
        k (ren (backTo s p) v) (kills d ++ olds s (L.map (blkRen (backTo s p))) ++ news p ((L.drop s.length).map (blkRen (backTo s p)))) (b ++ d ++ (s ++ (raw.rawL args ++ s.flatMap fun i => rawB (look i))))
      else none
  | none => none
end
end Go.AM
namespace Go.AM

structure Info where
  blk : Option Nat
  off : Nat
  len : Nat
  cap : Nat
  esz : Nat

def cellsAt (w : World) (b o : Nat) (vs : List Value) : Prop := ∀ j v, vs[j]? = some v → w.cell? ⟨b, o + j, none⟩ = some v

def All2 {α β : Type} (f : α → β → Prop) : List α → List β → Prop
  | [], [] => True
  | a :: as, b :: bs => f a b ∧ All2 f as bs
  | _, _ => False

def PR (w : World) (I : Nat → Prop) : (t : Ty) → t.D → List Value → Prop
  | .int k, n, vs => vs = [.int k n]
  | .bool, b, vs => vs = [.bool b]
  | .str, s, vs => vs = [.string ⟨s.toArray⟩]
  | .unit, _, vs => vs = []
  | .prod a b, x, vs => ∃ l r, vs = l ++ r ∧ PR w I a x.1 l ∧ PR w I b x.2 r
  | .sl a, xs, vs => (xs = [] ∧ ∃ p c, vs = [.slice p 0 c]) ∨
      ∃ b o c css, I b ∧ vs = [.slice (some ⟨b, o, none⟩) xs.length c] ∧ xs.length ≤ c ∧ All2 (PR w I a) xs css ∧ cellsAt w b o css.flatten
  | .ptr a, o, vs => match o with
    | none => vs = [.pointer none]
    | some x => ∃ b c cs, I b ∧ vs = [.pointer (some ⟨b, c, none⟩)] ∧ PR w I a x cs ∧ cellsAt w b c cs
  | .arr n a, xs, vs => xs.length = n ∧ ∃ css, All2 (PR w I a) xs css ∧ vs = css.flatten
  | .err, b, vs => match b with
    | true => vs = [.nilIface]
    | false => ∃ t x, vs = [.iface t x]

def slV (b : Option Nat) (off e n k cap : Nat) (v : Value) : Prop :=
  ∃ p, v = .slice p n (cap - e) ∧ (0 < cap - e → ∃ b', b = some b' ∧ p = some ⟨b', off + e * k, none⟩)

def SV.isPv : SV → Bool
  | .pv _ _ => true
  | _ => false

mutual
def FR (w : World) (I : Nat → Prop) (ρ : Nat → Option Info) : SV → Value → Prop
  | .pv t x, v => PR w I t x [v]
  | .ptr i c, v => ∃ x b, ρ i = some x ∧ x.blk = some b ∧ v = .pointer (some ⟨b, c, none⟩)
  | .rptr i e j, v => ∃ x b, ρ i = some x ∧ x.blk = some b ∧ v = .pointer (some ⟨b, x.off + e * x.esz + j, none⟩) ∧ e < x.len
  | .aptr i c n k e j, v => ∃ x b, ρ i = some x ∧ x.blk = some b ∧ v = .pointer (some ⟨b, c + e * k + j, none⟩) ∧ e < n
  | .sl i win, v => ∃ x, ρ i = some x ∧ match win with
    | none => slV x.blk x.off 0 x.len x.esz x.cap v
    | some (e, n) => e + n ≤ x.len ∧ slV x.blk x.off e n x.esz x.cap v
  | .asl i c n _, v => ∃ x b, ρ i = some x ∧ x.blk = some b ∧ v = .slice (some ⟨b, c, none⟩) n n
  | .emp, v => ∃ p, v = .slice p 0 0
  | .nils, v => v = .slice none 0 0
  | .nilp, v => v = .pointer none
  | .nilm, v => v = .map none
  | .nilf, v => v = .nilFunc
  | .nili, v => v = .nilIface
  | .mapr i, v => ∃ x b, ρ i = some x ∧ x.blk = some b ∧ v = .map (some b)
  | .fn f cs, v => ∃ vs, v = .func (.func f) #[] vs ∧ FRs w I ρ cs vs.toList
  | .iface t x, v => ∃ y, v = .iface t y ∧ FR w I ρ x y
  | .agg es, v => ∃ cs, v = .agg cs ∧ ERs w I ρ es cs.toList
  | .tup vs, v => ∃ cs, v = .tuple cs ∧ FRs w I ρ vs cs.toList
  | .undef, v => v = undef
  | .dead, _ => True
def FRs (w : World) (I : Nat → Prop) (ρ : Nat → Option Info) : List SV → List Value → Prop
  | [], vs => vs = []
  | e :: es, vs => ∃ v r, vs = v :: r ∧ FR w I ρ e v ∧ FRs w I ρ es r
def ERs (w : World) (I : Nat → Prop) (ρ : Nat → Option Info) : List SV → List Value → Prop
  | [], vs => vs = []
  | e :: es, vs => ∃ l r, vs = l ++ r ∧ ((∀ t x, e = .pv t x → PR w I t x l) ∧ (e.isPv = false → ∃ v, l = [v] ∧ v.oneCell' = true ∧ FR w I ρ e v)) ∧ ERs w I ρ es r
end

def CR (w : World) (I : Nat → Prop) (ρ : Nat → Option Info) (e : SV) (l : List Value) : Prop :=
  (∀ t x, e = .pv t x → PR w I t x l) ∧ (e.isPv = false → ∃ v, l = [v] ∧ v.oneCell' = true ∧ FR w I ρ e v)

theorem All2.len {α β : Type} {f : α → β → Prop} : ∀ {xs : List α} {ys : List β}, All2 f xs ys → xs.length = ys.length
  | [], [], _ => rfl
  | _ :: _, _ :: _, h => by simp [All2.len h.2]

theorem All2.mono {α β : Type} {f g : α → β → Prop} (hfg : ∀ a b, f a b → g a b) : ∀ {xs : List α} {ys : List β}, All2 f xs ys → All2 g xs ys
  | [], [], _ => trivial
  | _ :: _, _ :: _, h => ⟨hfg _ _ h.1, All2.mono hfg h.2⟩

theorem All2.get {α β : Type} {f : α → β → Prop} : ∀ {xs : List α} {ys : List β} (_ : All2 f xs ys) (i : Nat) (x : α), xs[i]? = some x → ∃ y, ys[i]? = some y ∧ f x y
  | x :: _, y :: _, h, 0, _, hx => ⟨y, rfl, by simp at hx; exact hx ▸ h.1⟩
  | _ :: xs, _ :: ys, h, i + 1, x, hx => All2.get (xs := xs) (ys := ys) h.2 i x (by simpa using hx)

theorem All2.append {α β : Type} {f : α → β → Prop} : ∀ {xs : List α} {ys : List β} {xs' : List α} {ys' : List β}, All2 f xs ys → All2 f xs' ys' → All2 f (xs ++ xs') (ys ++ ys')
  | [], [], _, _, _, h' => h'
  | _ :: _, _ :: _, _, _, h, h' => ⟨h.1, All2.append h.2 h'⟩

theorem All2.take {α β : Type} {f : α → β → Prop} : ∀ {xs : List α} {ys : List β} (n : Nat), All2 f xs ys → All2 f (xs.take n) (ys.take n)
  | _, _, 0, _ => by simp [All2]
  | [], [], _ + 1, _ => by simp [All2]
  | _ :: _, _ :: _, n + 1, h => ⟨h.1, All2.take n h.2⟩

theorem All2.drop {α β : Type} {f : α → β → Prop} : ∀ {xs : List α} {ys : List β} (n : Nat), All2 f xs ys → All2 f (xs.drop n) (ys.drop n)
  | _, _, 0, h => by simpa using h
  | [], [], _ + 1, _ => by simp [All2]
  | _ :: xs, _ :: ys, n + 1, h => All2.drop (xs := xs) (ys := ys) n h.2

theorem All2.set {α β : Type} {f : α → β → Prop} : ∀ {xs : List α} {ys : List β} (n : Nat) {x : α} {y : β}, All2 f xs ys → f x y → All2 f (xs.set n x) (ys.set n y)
  | [], [], _, _, _, _, _ => by simp [All2]
  | _ :: _, _ :: _, 0, _, _, h, h' => ⟨h', h.2⟩
  | _ :: _, _ :: _, n + 1, _, _, h, h' => ⟨h.1, All2.set n h.2 h'⟩

theorem All2.replicate {α β : Type} {f : α → β → Prop} {x : α} {y : β} (h : f x y) : ∀ n, All2 f (List.replicate n x) (List.replicate n y)
  | 0 => trivial
  | n + 1 => ⟨h, All2.replicate h n⟩

theorem flatten_len_const {α : Type} {k : Nat} : ∀ {css : List (List α)}, (∀ c ∈ css, c.length = k) → css.flatten.length = css.length * k
  | [], _ => by simp
  | c :: cs, h => by
    simp only [List.flatten_cons, List.length_append, List.length_cons]
    rw [h c (by simp), flatten_len_const (css := cs) (fun d hd => h d (by simp [hd])), Nat.succ_mul, Nat.add_comm]

theorem All2.allr {α β : Type} {f : α → β → Prop} {p : β → Prop} (h : ∀ a b, f a b → p b) : ∀ {xs : List α} {ys : List β}, All2 f xs ys → ∀ y ∈ ys, p y
  | [], [], _, _, hy => by simp at hy
  | _ :: xs, y0 :: ys, hh, y, hy => by
    rcases List.mem_cons.1 hy with rfl | hy
    · exact h _ _ hh.1
    · exact All2.allr h (xs := xs) (ys := ys) hh.2 y hy

section
variable {w w' : World} {I I' : Nat → Prop} {ρ ρ' : Nat → Option Info}

theorem PR.len : ∀ {t : Ty} {x : t.D} {vs : List Value}, PR w I t x vs → vs.length = t.size
  | .int _, _, _, h => by rw [PR] at h; subst h; rfl
  | .bool, _, _, h => by rw [PR] at h; subst h; rfl
  | .str, _, _, h => by rw [PR] at h; subst h; rfl
  | .unit, _, _, h => by rw [PR] at h; subst h; rfl
  | .prod a b, _, _, h => by
    rw [PR] at h; obtain ⟨l, r, rfl, h1, h2⟩ := h
    simp [Ty.size, PR.len h1, PR.len h2]
  | .sl _, _, _, h => by
    rw [PR] at h
    rcases h with ⟨_, p, c, rfl⟩ | ⟨b, o, c, css, _, rfl, _⟩ <;> rfl
  | .ptr _, none, _, h => by rw [PR] at h; subst h; rfl
  | .ptr _, some _, _, h => by rw [PR] at h; obtain ⟨b, c, cs, _, rfl, _⟩ := h; rfl
  | .arr n a, xs, _, h => by
    rw [PR] at h; obtain ⟨hn, css, h1, rfl⟩ := h
    rw [flatten_len_const (fun c hc => All2.allr (p := fun c => c.length = a.size) (fun _ _ h => PR.len h) h1 c hc), ← h1.len, hn, Ty.size]
  | .err, true, _, h => by rw [PR] at h; subst h; rfl
  | .err, false, _, h => by rw [PR] at h; obtain ⟨t, x, rfl⟩ := h; rfl

theorem PR.oneCell : ∀ {t : Ty} {x : t.D} {vs : List Value}, PR w I t x vs → ∀ v ∈ vs, v.oneCell' = true
  | .int _, _, _, h => by rw [PR] at h; subst h; simp [Value.oneCell']
  | .bool, _, _, h => by rw [PR] at h; subst h; simp [Value.oneCell']
  | .str, _, _, h => by rw [PR] at h; subst h; simp [Value.oneCell']
  | .unit, _, _, h => by rw [PR] at h; subst h; simp
  | .prod a b, _, _, h => by
    rw [PR] at h; obtain ⟨l, r, rfl, h1, h2⟩ := h
    intro v hv
    rcases List.mem_append.1 hv with hv | hv
    · exact PR.oneCell h1 v hv
    · exact PR.oneCell h2 v hv
  | .sl _, _, _, h => by
    rw [PR] at h
    rcases h with ⟨_, p, c, rfl⟩ | ⟨b, o, c, css, _, rfl, _⟩ <;> simp [Value.oneCell']
  | .ptr _, none, _, h => by rw [PR] at h; subst h; simp [Value.oneCell']
  | .ptr _, some _, _, h => by rw [PR] at h; obtain ⟨b, c, cs, _, rfl, _⟩ := h; simp [Value.oneCell']
  | .arr n a, xs, _, h => by
    rw [PR] at h; obtain ⟨hn, css, h1, rfl⟩ := h
    intro v hv
    obtain ⟨c, hc, hv⟩ := List.mem_flatten.1 hv
    exact All2.allr (p := fun c => ∀ v ∈ c, v.oneCell' = true) (fun _ _ h => PR.oneCell h) h1 c hc v hv
  | .err, true, _, h => by rw [PR] at h; subst h; simp [Value.oneCell']
  | .err, false, _, h => by rw [PR] at h; obtain ⟨t, x, rfl⟩ := h; simp [Value.oneCell']

def Stay (w : World) (I : Nat → Prop) (w' : World) (I' : Nat → Prop) : Prop := ∀ b, I b → I' b ∧ w'.heap[b]? = w.heap[b]?

theorem cellsAt.stay {b o : Nat} {vs : List Value} (h : w'.heap[b]? = w.heap[b]?) (hc : cellsAt w b o vs) : cellsAt w' b o vs := by
  intro j v hv
  have := hc j v hv
  simp only [World.cell?] at this ⊢
  rw [h]; exact this

theorem PR.mono (hs : Stay w I w' I') : ∀ {t : Ty} {x : t.D} {vs : List Value}, PR w I t x vs → PR w' I' t x vs
  | .int _, _, _, h => by rw [PR] at h ⊢; exact h
  | .bool, _, _, h => by rw [PR] at h ⊢; exact h
  | .str, _, _, h => by rw [PR] at h ⊢; exact h
  | .unit, _, _, h => by rw [PR] at h ⊢; exact h
  | .prod a b, _, _, h => by
    rw [PR] at h ⊢; obtain ⟨l, r, e, h1, h2⟩ := h
    exact ⟨l, r, e, PR.mono hs h1, PR.mono hs h2⟩
  | .sl a, _, _, h => by
    rw [PR] at h ⊢
    rcases h with h | ⟨b, o, c, css, hI, e, hl, h1, h2⟩
    · exact .inl h
    · exact .inr ⟨b, o, c, css, (hs b hI).1, e, hl, h1.mono fun _ _ h => PR.mono hs h, h2.stay (hs b hI).2⟩
  | .ptr _, none, _, h => by rw [PR] at h ⊢; exact h
  | .ptr _, some _, _, h => by
    rw [PR] at h ⊢; obtain ⟨b, c, cs, hI, e, h1, h2⟩ := h
    exact ⟨b, c, cs, (hs b hI).1, e, PR.mono hs h1, h2.stay (hs b hI).2⟩
  | .arr n a, xs, _, h => by
    rw [PR] at h ⊢; obtain ⟨hn, css, h1, e⟩ := h
    exact ⟨hn, css, h1.mono fun _ _ h => PR.mono hs h, e⟩
  | .err, true, _, h => by rw [PR] at h ⊢; exact h
  | .err, false, _, h => by rw [PR] at h ⊢; exact h

theorem PR.flat : ∀ {t : Ty} {x : t.D} {vs : List Value}, t.flatData = true → PR w I t x vs → PR w' I' t x vs
  | .int _, _, _, _, h => by rw [PR] at h ⊢; exact h
  | .bool, _, _, _, h => by rw [PR] at h ⊢; exact h
  | .str, _, _, _, h => by rw [PR] at h ⊢; exact h
  | .unit, _, _, _, h => by rw [PR] at h ⊢; exact h
  | .prod a b, _, _, hf, h => by
    rw [PR] at h ⊢; obtain ⟨l, r, e, h1, h2⟩ := h
    simp only [Ty.flatData, Bool.and_eq_true] at hf
    exact ⟨l, r, e, PR.flat hf.1 h1, PR.flat hf.2 h2⟩
  | .arr n a, xs, _, hf, h => by
    rw [PR] at h ⊢; obtain ⟨hn, css, h1, e⟩ := h
    have hf' : a.flatData = true := hf
    exact ⟨hn, css, All2.mono (fun _ _ h => PR.flat hf' h) h1, e⟩
  | .err, true, _, _, h => by rw [PR] at h ⊢; exact h
  | .err, false, _, _, h => by rw [PR] at h ⊢; exact h

def Ext (ρ ρ' : Nat → Option Info) : Prop := ∀ i x, ρ i = some x → ρ' i = some x

theorem Ext.refl (ρ : Nat → Option Info) : Ext ρ ρ := fun _ _ h => h
theorem Ext.trans {ρ'' : Nat → Option Info} (h : Ext ρ ρ') (h' : Ext ρ' ρ'') : Ext ρ ρ'' := fun i x hx => h' i x (h i x hx)
theorem Stay.refl (w : World) (I : Nat → Prop) : Stay w I w I := fun _ h => ⟨h, rfl⟩
theorem Stay.trans {w'' : World} {I'' : Nat → Prop} (h : Stay w I w' I') (h' : Stay w' I' w'' I'') : Stay w I w'' I'' :=
  fun b hb => ⟨(h' b (h b hb).1).1, (h' b (h b hb).1).2.trans (h b hb).2⟩

mutual
theorem FR.mono (hs : Stay w I w' I') (he : Ext ρ ρ') : ∀ {v : SV} {x : Value}, FR w I ρ v x → FR w' I' ρ' v x
  | .pv _ _, _, h => by rw [FR] at h ⊢; exact h.mono hs
  | .ptr _ _, _, h => by rw [FR] at h ⊢; obtain ⟨x, b, h1, h2, h3⟩ := h; exact ⟨x, b, he _ _ h1, h2, h3⟩
  | .rptr _ _ _, _, h => by rw [FR] at h ⊢; obtain ⟨x, b, h1, h2, h3, h4⟩ := h; exact ⟨x, b, he _ _ h1, h2, h3, h4⟩
  | .aptr _ _ _ _ _ _, _, h => by rw [FR] at h ⊢; obtain ⟨x, b, h1, h2, h3, h4⟩ := h; exact ⟨x, b, he _ _ h1, h2, h3, h4⟩
  | .sl _ none, _, h => by rw [FR] at h ⊢; obtain ⟨x, h1, h2⟩ := h; exact ⟨x, he _ _ h1, h2⟩
  | .sl _ (some (_, _)), _, h => by rw [FR] at h ⊢; obtain ⟨x, h1, h2⟩ := h; exact ⟨x, he _ _ h1, h2⟩
  | .asl _ _ _ _, _, h => by rw [FR] at h ⊢; obtain ⟨x, b, h1, h2, h3⟩ := h; exact ⟨x, b, he _ _ h1, h2, h3⟩
  | .emp, _, h => by rw [FR] at h ⊢; exact h
  | .nils, _, h => by rw [FR] at h ⊢; exact h
  | .nilp, _, h => by rw [FR] at h ⊢; exact h
  | .nilm, _, h => by rw [FR] at h ⊢; exact h
  | .nilf, _, h => by rw [FR] at h ⊢; exact h
  | .nili, _, h => by rw [FR] at h ⊢; exact h
  | .mapr _, _, h => by rw [FR] at h ⊢; obtain ⟨x, b, h1, h2, h3⟩ := h; exact ⟨x, b, he _ _ h1, h2, h3⟩
  | .fn _ cs, _, h => by rw [FR] at h ⊢; obtain ⟨vs, h1, h2⟩ := h; exact ⟨vs, h1, FRs.mono hs he h2⟩
  | .iface _ y, _, h => by rw [FR] at h ⊢; obtain ⟨z, h1, h2⟩ := h; exact ⟨z, h1, FR.mono hs he h2⟩
  | .agg es, _, h => by rw [FR] at h ⊢; obtain ⟨vs, h1, h2⟩ := h; exact ⟨vs, h1, ERs.mono hs he h2⟩
  | .tup es, _, h => by rw [FR] at h ⊢; obtain ⟨vs, h1, h2⟩ := h; exact ⟨vs, h1, FRs.mono hs he h2⟩
  | .undef, _, h => by rw [FR] at h ⊢; exact h
  | .dead, _, h => by rw [FR]; trivial
theorem FRs.mono (hs : Stay w I w' I') (he : Ext ρ ρ') : ∀ {vs : List SV} {xs : List Value}, FRs w I ρ vs xs → FRs w' I' ρ' vs xs
  | [], _, h => by rw [FRs] at h ⊢; exact h
  | _ :: _, _, h => by rw [FRs] at h ⊢; obtain ⟨v, r, h1, h2, h3⟩ := h; exact ⟨v, r, h1, FR.mono hs he h2, FRs.mono hs he h3⟩
theorem ERs.mono (hs : Stay w I w' I') (he : Ext ρ ρ') : ∀ {vs : List SV} {xs : List Value}, ERs w I ρ vs xs → ERs w' I' ρ' vs xs
  | [], _, h => by rw [ERs] at h ⊢; exact h
  | e :: es, _, h => by
    rw [ERs] at h ⊢
    obtain ⟨l, r, h1, h2, h3⟩ := h
    exact ⟨l, r, h1, ⟨fun t x hx => (h2.1 t x hx).mono hs, fun hp => let ⟨v, a, b, c⟩ := h2.2 hp; ⟨v, a, b, FR.mono hs he c⟩⟩, ERs.mono hs he h3⟩
end
end
end Go.AM
namespace Go.AM
section
variable {w w' : World} {I I' : Nat → Prop} {ρ ρ' : Nat → Option Info}

theorem ERs.cons {e : SV} {es : List SV} {vs : List Value} : ERs w I ρ (e :: es) vs ↔ ∃ l r, vs = l ++ r ∧ CR w I ρ e l ∧ ERs w I ρ es r := by
  rw [ERs]; rfl

theorem ERs.nil {vs : List Value} : ERs w I ρ [] vs ↔ vs = [] := by rw [ERs]

theorem CR.pv {t : Ty} {x : t.D} {l : List Value} : CR w I ρ (.pv t x) l ↔ PR w I t x l := by
  constructor
  · exact fun h => h.1 t x rfl
  · intro h
    refine ⟨fun t' x' hx => ?_, fun hp => by simp [SV.isPv] at hp⟩
    cases hx; exact h

theorem CR.ref {e : SV} (he : e.isPv = false) {l : List Value} : CR w I ρ e l ↔ ∃ v, l = [v] ∧ v.oneCell' = true ∧ FR w I ρ e v :=
  ⟨fun h => h.2 he, fun h => ⟨fun t x hx => by subst hx; simp [SV.isPv] at he, fun _ => h⟩⟩

theorem CR.len {e : SV} {l : List Value} (h : CR w I ρ e l) : l.length = esize e := by
  cases e with
  | pv t x => exact (CR.pv.1 h).len
  | _ => obtain ⟨v, rfl, _⟩ := (CR.ref rfl).1 h; rfl

theorem CR.oneCell {e : SV} {l : List Value} (h : CR w I ρ e l) : ∀ v ∈ l, v.oneCell' = true := by
  cases e with
  | pv t x => exact (CR.pv.1 h).oneCell
  | _ => obtain ⟨v, rfl, h1, _⟩ := (CR.ref rfl).1 h; simpa using h1

theorem CR.fr {e : SV} {l : List Value} (h : CR w I ρ e l) (he : esize e = 1) : ∃ v, l = [v] ∧ v.oneCell' = true ∧ FR w I ρ e v := by
  have hl := h.len
  rw [he] at hl
  cases e with
  | pv t x =>
    match l, hl with
    | [v], _ => exact ⟨v, rfl, h.oneCell v (by simp), by rw [FR]; exact CR.pv.1 h⟩
  | _ => exact (CR.ref rfl).1 h

theorem CR.mono (hs : Stay w I w' I') (he : Ext ρ ρ') {e : SV} {l : List Value} (h : CR w I ρ e l) : CR w' I' ρ' e l :=
  ⟨fun t x hx => (h.1 t x hx).mono hs, fun hp => let ⟨v, a, b, c⟩ := h.2 hp; ⟨v, a, b, FR.mono hs he c⟩⟩

theorem ERs.len : ∀ {es : List SV} {vs : List Value}, ERs w I ρ es vs → vs.length = esizes es
  | [], _, h => by rw [ERs.nil] at h; subst h; rfl
  | e :: es, _, h => by
    obtain ⟨l, r, rfl, h1, h2⟩ := ERs.cons.1 h
    simp [esizes, h1.len, ERs.len h2]

theorem ERs.oneCell : ∀ {es : List SV} {vs : List Value}, ERs w I ρ es vs → ∀ v ∈ vs, v.oneCell' = true
  | [], _, h => by rw [ERs.nil] at h; subst h; simp
  | e :: es, _, h => by
    obtain ⟨l, r, rfl, h1, h2⟩ := ERs.cons.1 h
    intro v hv
    rcases List.mem_append.1 hv with hv | hv
    · exact h1.oneCell v hv
    · exact ERs.oneCell h2 v hv

theorem ERs.append : ∀ {es es' : List SV} {vs vs' : List Value}, ERs w I ρ es vs → ERs w I ρ es' vs' → ERs w I ρ (es ++ es') (vs ++ vs')
  | [], _, _, _, h, h' => by rw [ERs.nil] at h; subst h; simpa using h'
  | e :: es, _, _, _, h, h' => by
    obtain ⟨l, r, rfl, h1, h2⟩ := ERs.cons.1 h
    rw [List.append_assoc]
    exact ERs.cons.2 ⟨l, _, rfl, h1, ERs.append h2 h'⟩

theorem ERs.skip : ∀ {es es' : List SV} {c : Nat} {vs : List Value}, ERs w I ρ es vs → skip es c = some es' → c ≤ vs.length ∧ ERs w I ρ es' (vs.drop c)
  | es, es', 0, vs, h, hk => by
    have : es = es' := by cases es <;> simpa [AM.skip] using hk
    subst this; exact ⟨Nat.zero_le _, by simpa using h⟩
  | [], _, _ + 1, _, _, hk => by simp [AM.skip] at hk
  | e :: es, es', c + 1, vs, h, hk => by
    obtain ⟨l, r, rfl, h1, h2⟩ := ERs.cons.1 h
    rw [AM.skip] at hk
    split at hk
    case isTrue hle =>
      obtain ⟨h3, h4⟩ := ERs.skip h2 hk
      have hl := h1.len
      refine ⟨by simp only [List.length_append]; omega, ?_⟩
      rw [List.drop_append]
      have e1 : l.drop (c + 1) = [] := List.drop_eq_nil_of_le (by omega)
      rw [e1, hl]; simpa using h4
    case isFalse => simp at hk
    all_goals simp

theorem ERs.takeC : ∀ {es l : List SV} {n : Nat} {vs : List Value}, ERs w I ρ es vs → takeC es n = some l → n ≤ vs.length ∧ ERs w I ρ l (vs.take n)
  | es, l, 0, vs, h, hk => by
    have : l = [] := by cases es <;> simp [AM.takeC] at hk <;> exact hk
    subst this; exact ⟨Nat.zero_le _, by simp [ERs.nil]⟩
  | [], _, _ + 1, _, _, hk => by simp [AM.takeC] at hk
  | e :: es, l, n + 1, vs, h, hk => by
    obtain ⟨l1, r, rfl, h1, h2⟩ := ERs.cons.1 h
    rw [AM.takeC] at hk
    split at hk
    case isTrue hle =>
      obtain ⟨l2, hk2, rfl⟩ := Option.map_eq_some_iff.1 hk
      obtain ⟨h3, h4⟩ := ERs.takeC h2 hk2
      have hl := h1.len
      refine ⟨by simp only [List.length_append]; omega, ?_⟩
      rw [List.take_append, List.take_of_length_le (by omega), hl]
      exact ERs.cons.2 ⟨l1, _, rfl, h1, h4⟩
    case isFalse => simp at hk
    all_goals simp

theorem ERs.splice : ∀ {es new es' : List SV} {c : Nat} {vs nv : List Value}, ERs w I ρ es vs → ERs w I ρ new nv → splice es c new = some es' →
    c + nv.length ≤ vs.length ∧ ERs w I ρ es' (vs.take c ++ nv ++ vs.drop (c + nv.length))
  | es, new, es', 0, vs, nv, h, hn, hk => by
    have hk' : (AM.skip es (esizes new)).map (new ++ ·) = some es' := by cases es <;> simpa [AM.splice] using hk
    obtain ⟨r, hr, rfl⟩ := Option.map_eq_some_iff.1 hk'
    obtain ⟨h1, h2⟩ := ERs.skip h hr
    rw [← hn.len] at h1 h2
    refine ⟨by omega, ?_⟩
    simpa using hn.append h2
  | [], _, _, _ + 1, _, _, _, _, hk => by simp [AM.splice] at hk
  | e :: es, new, es', c + 1, vs, nv, h, hn, hk => by
    obtain ⟨l, r, rfl, h1, h2⟩ := ERs.cons.1 h
    rw [AM.splice] at hk
    split at hk
    case isTrue hle =>
      obtain ⟨r', hr', rfl⟩ := Option.map_eq_some_iff.1 hk
      obtain ⟨h3, h4⟩ := ERs.splice h2 hn hr'
      have hl := h1.len
      refine ⟨by simp only [List.length_append]; omega, ?_⟩
      refine ERs.cons.2 ⟨l, r.take (c + 1 - esize e) ++ nv ++ r.drop (c + 1 - esize e + nv.length), ?_, h1, h4⟩
      rw [List.take_append, List.take_of_length_le (by omega : l.length ≤ c + 1), List.drop_append, hl,
        List.drop_eq_nil_of_le (by omega : l.length ≤ c + 1 + nv.length), List.nil_append, List.append_assoc, List.append_assoc, List.append_assoc]
      congr 4
      omega
    case isFalse => simp at hk
    all_goals simp

theorem flat_ers : ∀ {t : Ty} {x : t.D} {vs : List Value}, PR w I t x vs → ERs w I ρ (flat t x) vs
  | .unit, _, _, h => by rw [PR] at h; subst h; exact ERs.nil.2 rfl
  | .prod a b, _, _, h => by
    rw [PR] at h; obtain ⟨l, r, rfl, h1, h2⟩ := h
    exact (flat_ers h1).append (flat_ers h2)
  | .int _, _, vs, h => ERs.cons.2 ⟨vs, [], by simp, CR.pv.2 h, ERs.nil.2 rfl⟩
  | .bool, _, vs, h => ERs.cons.2 ⟨vs, [], by simp, CR.pv.2 h, ERs.nil.2 rfl⟩
  | .str, _, vs, h => ERs.cons.2 ⟨vs, [], by simp, CR.pv.2 h, ERs.nil.2 rfl⟩
  | .sl _, _, vs, h => ERs.cons.2 ⟨vs, [], by simp, CR.pv.2 h, ERs.nil.2 rfl⟩
  | .ptr _, _, vs, h => ERs.cons.2 ⟨vs, [], by simp, CR.pv.2 h, ERs.nil.2 rfl⟩
  | .arr _ _, _, vs, h => ERs.cons.2 ⟨vs, [], by simp, CR.pv.2 h, ERs.nil.2 rfl⟩
  | .err, _, vs, h => ERs.cons.2 ⟨vs, [], by simp, CR.pv.2 h, ERs.nil.2 rfl⟩

theorem castTy_eq {a b : Ty} {x : a.D} {y : b.D} (h : castTy a b x = some y) : ∃ e : a = b, y = e ▸ x := by
  unfold castTy at h
  split at h
  case isTrue e => exact ⟨e, by simpa using h.symm⟩
  case isFalse => simp at h

theorem one_cr {t : Ty} {e : SV} {x : t.D} {l : List Value} (h : one t e = some x) (hc : CR w I ρ e l) : PR w I t x l := by
  cases e with
  | pv t' x' =>
    obtain ⟨rfl, rfl⟩ := castTy_eq (a := t') (b := t) (x := x') h
    exact CR.pv.1 hc
  | nils =>
    obtain ⟨v, rfl, _, h2⟩ := (CR.ref rfl).1 hc
    rw [FR] at h2; subst h2
    cases t <;> simp [one] at h
    subst h; rw [PR]; exact .inl ⟨rfl, _, _, rfl⟩
  | emp =>
    obtain ⟨v, rfl, _, h2⟩ := (CR.ref rfl).1 hc
    rw [FR] at h2; obtain ⟨p, rfl⟩ := h2
    cases t <;> simp [one] at h
    subst h; rw [PR]; exact .inl ⟨rfl, _, _, rfl⟩
  | nilp =>
    obtain ⟨v, rfl, _, h2⟩ := (CR.ref rfl).1 hc
    rw [FR] at h2; subst h2
    cases t <;> simp [one] at h
    subst h; rw [PR]
  | nili =>
    obtain ⟨v, rfl, _, h2⟩ := (CR.ref rfl).1 hc
    rw [FR] at h2; subst h2
    cases t <;> simp [one] at h
    subst h; rw [PR]
  | _ => simp [one] at h

theorem unflat_one {t : Ty} (ht : ∀ a b, t ≠ .prod a b) (hu : t ≠ .unit) (e : SV) (es : List SV) :
    unflat t (e :: es) = match one t e with | some x => some (x, es) | none => none := by
  cases t with
  | prod a b => exact absurd rfl (ht a b)
  | unit => exact absurd rfl hu
  | _ => rfl

theorem unflat_pr : ∀ {t : Ty} {es r : List SV} {x : t.D} {vs : List Value}, unflat t es = some (x, r) → ERs w I ρ es vs →
    ∃ l v', vs = l ++ v' ∧ PR w I t x l ∧ ERs w I ρ r v'
  | .unit, es, r, x, vs, h, hv => by
    simp [unflat] at h; subst h
    exact ⟨[], vs, rfl, by rw [PR], hv⟩
  | .prod a b, es, r, x, vs, h, hv => by
    rw [unflat] at h
    split at h
    case h_1 x1 r1 h1 =>
      split at h
      case h_1 y1 r2 h2 =>
        simp at h; obtain ⟨rfl, rfl⟩ := h
        obtain ⟨l1, v1, rfl, p1, e1⟩ := unflat_pr h1 hv
        obtain ⟨l2, v2, rfl, p2, e2⟩ := unflat_pr h2 e1
        exact ⟨l1 ++ l2, v2, by simp, by rw [PR]; exact ⟨l1, l2, rfl, p1, p2⟩, e2⟩
      case h_2 => simp at h
    case h_2 => simp at h
  | .int k, es, r, x, vs, h, hv => leaf (by simp) (by simp) h hv
  | .bool, es, r, x, vs, h, hv => leaf (by simp) (by simp) h hv
  | .str, es, r, x, vs, h, hv => leaf (by simp) (by simp) h hv
  | .sl _, es, r, x, vs, h, hv => leaf (by simp) (by simp) h hv
  | .ptr _, es, r, x, vs, h, hv => leaf (by simp) (by simp) h hv
  | .arr _ _, es, r, x, vs, h, hv => leaf (by simp) (by simp) h hv
  | .err, es, r, x, vs, h, hv => leaf (by simp) (by simp) h hv
where
  leaf {t : Ty} {es r : List SV} {x : t.D} {vs : List Value} (ht : ∀ a b, t ≠ .prod a b) (hu : t ≠ .unit) (h : unflat t es = some (x, r)) (hv : ERs w I ρ es vs) :
      ∃ l v', vs = l ++ v' ∧ PR w I t x l ∧ ERs w I ρ r v' := by
    cases es with
    | nil =>
      cases t with
      | prod a b => exact absurd rfl (ht a b)
      | unit => exact absurd rfl hu
      | _ => simp [unflat] at h
    | cons e es =>
      rw [unflat_one ht hu] at h
      split at h
      case h_1 y hy =>
        simp at h; obtain ⟨rfl, rfl⟩ := h
        obtain ⟨l, r, rfl, h1, h2⟩ := ERs.cons.1 hv
        exact ⟨l, r, rfl, one_cr hy h1, h2⟩
      case h_2 => simp at h

theorem whole_pr {t : Ty} {es : List SV} {x : t.D} {vs : List Value} (h : whole t es = some x) (hv : ERs w I ρ es vs) : PR w I t x vs := by
  unfold whole at h
  split at h
  case h_1 y hy =>
    simp at h; subst h
    obtain ⟨l, v', rfl, h1, h2⟩ := unflat_pr hy hv
    rw [ERs.nil] at h2; subst h2
    simpa using h1
  case h_2 => simp at h

theorem slV.one {b : Option Nat} {off e n k cap : Nat} {v : Value} (h : slV b off e n k cap v) : v.oneCell' = true := by
  obtain ⟨p, rfl, _⟩ := h; rfl

theorem FR.one {v : SV} {x : Value} (h : FR w I ρ v x) {es : List SV} (he : entsOf v = some es) : (∃ es, v = .agg es) ∨ x.oneCell' = true := by
  cases v with
  | agg es => exact .inl ⟨_, rfl⟩
  | pv t y => rw [FR] at h; exact .inr (h.oneCell x (by simp))
  | ptr => rw [FR] at h; obtain ⟨_, _, _, _, rfl⟩ := h; exact .inr rfl
  | rptr => rw [FR] at h; obtain ⟨_, _, _, _, rfl, _⟩ := h; exact .inr rfl
  | aptr => rw [FR] at h; obtain ⟨_, _, _, _, rfl, _⟩ := h; exact .inr rfl
  | sl i win =>
    cases win with
    | none => rw [FR] at h; obtain ⟨_, _, h⟩ := h; exact .inr h.one
    | some q => obtain ⟨e, n⟩ := q; rw [FR] at h; obtain ⟨_, _, _, h⟩ := h; exact .inr h.one
  | asl => rw [FR] at h; obtain ⟨_, _, _, _, rfl⟩ := h; exact .inr rfl
  | emp => rw [FR] at h; obtain ⟨_, rfl⟩ := h; exact .inr rfl
  | nils => rw [FR] at h; subst h; exact .inr rfl
  | nilp => rw [FR] at h; subst h; exact .inr rfl
  | nilm => rw [FR] at h; subst h; exact .inr rfl
  | nilf => rw [FR] at h; subst h; exact .inr rfl
  | nili => rw [FR] at h; subst h; exact .inr rfl
  | mapr => rw [FR] at h; obtain ⟨_, _, _, _, rfl⟩ := h; exact .inr rfl
  | fn => rw [FR] at h; obtain ⟨_, rfl, _⟩ := h; exact .inr rfl
  | iface => rw [FR] at h; obtain ⟨_, rfl, _⟩ := h; exact .inr rfl
  | tup => simp [entsOf] at he
  | undef => simp [entsOf] at he
  | dead => simp [entsOf] at he

theorem cells_one {x : Value} (h : x.oneCell' = true) : x.cells = #[x] := by cases x <;> simp [Value.oneCell', Value.cells] at h ⊢

theorem entsOf_ers {v : SV} {x : Value} (h : FR w I ρ v x) {es : List SV} (he : entsOf v = some es) : ERs w I ρ es x.cells.toList := by
  rcases h.one he with ⟨es', rfl⟩ | h1
  · simp [entsOf] at he; subst he
    rw [FR] at h; obtain ⟨cs, rfl, h⟩ := h; exact h
  · have hc : x.cells.toList = [x] := by rw [cells_one h1]
    rw [hc]
    cases v with
    | agg es' => rw [FR] at h; obtain ⟨cs, rfl, _⟩ := h; simp [Value.oneCell'] at h1
    | pv t y =>
      simp [entsOf] at he; subst he; rw [FR] at h
      exact ERs.cons.2 ⟨[x], [], rfl, CR.pv.2 h, ERs.nil.2 rfl⟩
    | tup => simp [entsOf] at he
    | undef => simp [entsOf] at he
    | dead => simp [entsOf] at he
    | _ =>
      simp [entsOf] at he; subst he
      exact ERs.cons.2 ⟨[x], [], rfl, (CR.ref rfl).2 ⟨x, rfl, h1, h⟩, ERs.nil.2 rfl⟩
end
end Go.AM
namespace Go.AM

def nofrz (n : Nat) (fz : Nat × Nat) : Prop := ∀ o, o < n → ¬ (fz.1 ≤ o ∧ o < fz.2)

def TV (w : World) (I : Nat → Prop) (t : Ty) (x : t.D) (v : Value) : Prop :=
  PR w I t x v.cells.toList ∧ (t.isAgg = true → ∃ cs, v = .agg cs) ∧ (t.isAgg = false → v.oneCell' = true)

def BR (w : World) (I : Nat → Prop) (ρ : Nat → Option Info) (i : Nat) : Blk → Prop
  | .dead => True
  | .box es ety => ∃ x b arr fz, ρ i = some x ∧ x.blk = some b ∧ w.heap[b]? = some (.cells arr ety fz) ∧ nofrz arr.size fz ∧ ERs w I ρ es arr.toList
  | .row t xs ety gr => ∃ x, ρ i = some x ∧ x.len = xs.length ∧ x.esz = t.size ∧ xs.length ≤ x.cap ∧ (gr = false → x.cap = xs.length) ∧
      (x.blk = none → x.cap = 0) ∧ ∀ b, x.blk = some b → ∃ arr fz pre css rest, w.heap[b]? = some (.cells arr ety fz) ∧ nofrz arr.size fz ∧
        arr.size = x.off + x.cap * t.size ∧ All2 (PR w I t) xs css ∧ arr.toList = pre ++ (css.flatten ++ rest) ∧ pre.length = x.off
  | .map kt vt es => ∃ x b ents clock, ρ i = some x ∧ x.blk = some b ∧ w.heap[b]? = some (.map ents clock) ∧
      All2 (fun (e : kt.D × vt.D) (m : MapEntry) => PR w I kt e.1 [m.key] ∧ TV w I vt e.2 m.val) es ents.toList

def Own (ρ : Nat → Option Info) (look : Look) (b : Nat) : Prop := ∃ i x, look i ≠ .dead ∧ ρ i = some x ∧ x.blk = some b

structure Real (G : Nat) (H0 : Array Obj) (w : World) (I : Nat → Prop) (ρ : Nat → Option Info) (look : Look) : Prop where
  blk : ∀ i, BR w I ρ i (look i)
  inj : ∀ i j x y b, look i ≠ .dead → look j ≠ .dead → ρ i = some x → ρ j = some y → x.blk = some b → y.blk = some b → i = j
  own : ∀ b, Own ρ look b → b < w.heap.size ∧ ¬ I b ∧ G ≤ b
  imm : ∀ b, I b → b < w.heap.size
  glob : ∀ b, b < G → w.heap[b]? = H0[b]?
  gsz : G ≤ w.heap.size

structure Post (G : Nat) (H0 : Array Obj) (w : World) (I : Nat → Prop) (ρ : Nat → Option Info) (look : Look)
    (w' : World) (I' : Nat → Prop) (ρ' : Nat → Option Info) (look' : Look) : Prop where
  real : Real G H0 w' I' ρ' look'
  ext : Ext ρ ρ'
  stay : Stay w I w' I'
  size : w.heap.size ≤ w'.heap.size
  frame : ∀ b, b < w.heap.size → ¬ Own ρ look b → w'.heap[b]? = w.heap[b]?
  own : ∀ b, Own ρ' look' b → Own ρ look b ∨ w.heap.size ≤ b
  pubd : ∀ b, I' b → I b ∨ Own ρ look b ∨ w.heap.size ≤ b
  os : w'.os = w.os
  tape : w'.tape = w.tape
  output : w'.output = w.output

section
variable {G : Nat} {H0 : Array Obj} {w w' w'' : World} {I I' I'' : Nat → Prop} {ρ ρ' ρ'' : Nat → Option Info} {look look' look'' : Look}

theorem TV.mono (hs : Stay w I w' I') {t : Ty} {x : t.D} {v : Value} (h : TV w I t x v) : TV w' I' t x v := ⟨h.1.mono hs, h.2⟩

theorem BR.mono {i : Nat} {B : Blk} (hs : Stay w I w' I') (he : Ext ρ ρ') (hb : ∀ x b, ρ i = some x → x.blk = some b → w'.heap[b]? = w.heap[b]?)
    (h : BR w I ρ i B) : BR w' I' ρ' i B := by
  cases B with
  | dead => trivial
  | box es ety =>
    obtain ⟨x, b, arr, fz, h1, h2, h3, h4, h5⟩ := h
    exact ⟨x, b, arr, fz, he _ _ h1, h2, (hb x b h1 h2).trans h3, h4, h5.mono hs he⟩
  | row t xs ety gr =>
    obtain ⟨x, h1, h2, h3, h4, h5, h6, h7⟩ := h
    refine ⟨x, he _ _ h1, h2, h3, h4, h5, h6, fun b hb' => ?_⟩
    obtain ⟨arr, fz, pre, css, rest, a1, a2, a3, a4, a5⟩ := h7 b hb'
    exact ⟨arr, fz, pre, css, rest, (hb x b h1 hb').trans a1, a2, a3, a4.mono fun _ _ h => h.mono hs, a5⟩
  | map kt vt es =>
    obtain ⟨x, b, ents, clock, h1, h2, h3, h4⟩ := h
    exact ⟨x, b, ents, clock, he _ _ h1, h2, (hb x b h1 h2).trans h3, h4.mono fun _ _ h => ⟨h.1.mono hs, h.2.mono hs⟩⟩

theorem Post.refl (h : Real G H0 w I ρ look) : Post G H0 w I ρ look w I ρ look :=
  ⟨h, Ext.refl _, Stay.refl _ _, Nat.le_refl _, fun _ _ _ => rfl, fun _ h => .inl h, fun _ h => .inl h, rfl, rfl, rfl⟩

theorem Post.trans (h : Post G H0 w I ρ look w' I' ρ' look') (h' : Post G H0 w' I' ρ' look' w'' I'' ρ'' look'') : Post G H0 w I ρ look w'' I'' ρ'' look'' where
  real := h'.real
  ext := h.ext.trans h'.ext
  stay := h.stay.trans h'.stay
  size := Nat.le_trans h.size h'.size
  frame b hb ho := by
    rw [h'.frame b (Nat.lt_of_lt_of_le hb h.size) (fun o => by
      rcases h.own b o with o | o
      · exact ho o
      · omega), h.frame b hb ho]
  own b hb := by
    rcases h'.own b hb with o | o
    · exact h.own b o
    · exact .inr (Nat.le_trans h.size o)
  pubd b hb := by
    rcases h'.pubd b hb with o | o | o
    · exact h.pubd b o
    · rcases h.own b o with o | o
      · exact .inr (.inl o)
      · exact .inr (.inr o)
    · exact .inr (.inr (Nat.le_trans h.size o))
  os := h'.os.trans h.os
  tape := h'.tape.trans h.tape
  output := h'.output.trans h.output

theorem Real.same (h : Real G H0 w I ρ look) (he : w'.heap = w.heap) (ho : w'.os = w.os) (ht : w'.tape = w.tape) (hu : w'.output = w.output) :
    Post G H0 w I ρ look w' I ρ look where
  real := { blk := fun i => (h.blk i).mono (fun b hb => ⟨hb, by rw [he]⟩) (Ext.refl _) (fun _ _ _ _ => by rw [he])
            inj := h.inj, own := fun b hb => by rw [he]; exact h.own b hb, imm := fun b hb => by rw [he]; exact h.imm b hb
            glob := fun b hb => by rw [he]; exact h.glob b hb, gsz := by rw [he]; exact h.gsz }
  ext := Ext.refl _
  stay := fun b hb => ⟨hb, by rw [he]⟩
  size := by rw [he]; exact Nat.le_refl _
  frame := fun _ _ _ => by rw [he]
  own := fun _ h => .inl h
  pubd := fun _ h => .inl h
  os := ho
  tape := ht
  output := hu

theorem Real.forget (h : Real G H0 w I ρ look) (hl : ∀ i, look' i = look i ∨ look' i = .dead) : Post G H0 w I ρ look w I ρ look' := by
  have hd : ∀ i, look' i ≠ .dead → look i ≠ .dead := fun i hi => by
    rcases hl i with e | e
    · rwa [← e]
    · exact absurd e hi
  have hown : ∀ b, Own ρ look' b → Own ρ look b := fun b ⟨i, x, h1, h2⟩ => ⟨i, x, hd i h1, h2⟩
  refine ⟨⟨fun i => ?_, fun i j x y b h1 h2 => h.inj i j x y b (hd i h1) (hd j h2), fun b hb => h.own b (hown b hb), h.imm, h.glob, h.gsz⟩,
    Ext.refl _, Stay.refl _ _, Nat.le_refl _, fun _ _ _ => rfl, fun b hb => .inl (hown b hb), fun _ h => .inl h, rfl, rfl, rfl⟩
  rcases hl i with e | e
  · rw [e]; exact h.blk i
  · rw [e]; trivial

theorem Real.publish (h : Real G H0 w I ρ look) (hl : ∀ i, look' i = look i ∨ look' i = .dead)
    (hI : ∀ b, I b → I' b) (hI' : ∀ b, I' b → I b ∨ ∃ i x, look i ≠ .dead ∧ look' i = .dead ∧ ρ i = some x ∧ x.blk = some b) :
    Post G H0 w I ρ look w I' ρ look' := by
  have hd : ∀ i, look' i ≠ .dead → look i ≠ .dead := fun i hi => by
    rcases hl i with e | e
    · rwa [← e]
    · exact absurd e hi
  have hown : ∀ b, Own ρ look' b → Own ρ look b := fun b ⟨i, x, h1, h2⟩ => ⟨i, x, hd i h1, h2⟩
  have hs : Stay w I w I' := fun b hb => ⟨hI b hb, rfl⟩
  have hno : ∀ b, Own ρ look' b → ¬ I' b := by
    rintro b ⟨i, x, h1, h2, h3⟩ hb
    rcases hI' b hb with hb | ⟨j, y, h4, h5, h6, h7⟩
    · exact (h.own b ⟨i, x, hd i h1, h2, h3⟩).2.1 hb
    · have := h.inj i j x y b (hd i h1) h4 h2 h6 h3 h7
      subst this; exact h1 h5
  refine ⟨⟨fun i => ?_, fun i j x y b h1 h2 => h.inj i j x y b (hd i h1) (hd j h2), fun b hb => ⟨(h.own b (hown b hb)).1, hno b hb, (h.own b (hown b hb)).2.2⟩, fun b hb => ?_, h.glob, h.gsz⟩,
    Ext.refl _, hs, Nat.le_refl _, fun _ _ _ => rfl, fun b hb => .inl (hown b hb), fun b hb => ?_, rfl, rfl, rfl⟩
  · rcases hl i with e | e
    · rw [e]; exact (h.blk i).mono hs (Ext.refl _) (fun _ _ _ _ => rfl)
    · rw [e]; trivial
  · rcases hI' b hb with hb | ⟨j, y, h4, _, h6, h7⟩
    · exact h.imm b hb
    · exact (h.own b ⟨j, y, h4, h6, h7⟩).1
  · rcases hI' b hb with hb | ⟨j, y, h4, _, h6, h7⟩
    · exact .inl hb
    · exact .inr (.inl ⟨j, y, h4, h6, h7⟩)

theorem Real.write (h : Real G H0 w I ρ look) {i : Nat} {x : Info} {b : Nat} (hi : look i ≠ .dead) (hx : ρ i = some x) (hb : x.blk = some b)
    (hl : ∀ j, j ≠ i → look' j = look j) (hsz : w'.heap.size = w.heap.size) (hh : ∀ c, c ≠ b → w'.heap[c]? = w.heap[c]?)
    (hB : BR w' I ρ i (look' i)) (ho : w'.os = w.os) (ht : w'.tape = w.tape) (hu : w'.output = w.output) : Post G H0 w I ρ look w' I ρ look' := by
  have hob : Own ρ look b := ⟨i, x, hi, hx, hb⟩
  have ⟨hb1, hb2, hb3⟩ := h.own b hob
  have hs : Stay w I w' I := fun c hc => ⟨hc, hh c fun e => hb2 (e ▸ hc)⟩
  have hd : ∀ j, look' j ≠ .dead → look j ≠ .dead := fun j hj => by
    by_cases e : j = i
    · subst e; exact hi
    · rwa [← hl j e]
  have hown : ∀ c, Own ρ look' c → Own ρ look c := fun c ⟨j, y, h1, h2⟩ => ⟨j, y, hd j h1, h2⟩
  refine ⟨⟨fun j => ?_, fun j k y z c h1 h2 => h.inj j k y z c (hd j h1) (hd k h2), fun c hc => by rw [hsz]; exact h.own c (hown c hc), fun c hc => by rw [hsz]; exact h.imm c hc,
      fun c hc => by rw [hh c (by omega)]; exact h.glob c hc, by rw [hsz]; exact h.gsz⟩,
    Ext.refl _, hs, by omega, fun c _ hc => hh c fun e => hc (e ▸ hob), fun c hc => .inl (hown c hc), fun c hc => .inl hc, ho, ht, hu⟩
  by_cases e : j = i
  · subst e; exact hB
  · rw [hl j e]
    by_cases hj : look j = .dead
    · rw [hj]; trivial
    · exact (h.blk j).mono hs (Ext.refl _) fun y c hy hc => hh c fun e' => e (h.inj j i y x b hj hi hy hx (e' ▸ hc) hb)

def upd {β : Type} (f : Nat → β) (i : Nat) (v : β) : Nat → β := fun j => if j = i then v else f j

theorem upd_same {β : Type} (f : Nat → β) (i : Nat) (v : β) : upd f i v i = v := by simp [upd]
theorem upd_other {β : Type} (f : Nat → β) {i j : Nat} (v : β) (h : j ≠ i) : upd f i v j = f j := by simp [upd, h]

theorem Real.birth (h : Real G H0 w I ρ look) {p : Nat} {x : Info} (hp : ρ p = none)
    (hl : ∀ j, j ≠ p → look' j = look j) (hsz : w.heap.size ≤ w'.heap.size) (hh : ∀ c, c < w.heap.size → w'.heap[c]? = w.heap[c]?)
    (hx : ∀ b, x.blk = some b → w.heap.size ≤ b ∧ b < w'.heap.size) (hB : BR w' I (upd ρ p (some x)) p (look' p))
    (ho : w'.os = w.os) (ht : w'.tape = w.tape) (hu : w'.output = w.output) : Post G H0 w I ρ look w' I (upd ρ p (some x)) look' := by
  have he : Ext ρ (upd ρ p (some x)) := fun i y hy => by
    rw [upd_other]; exact hy
    intro e; subst e; rw [hp] at hy; cases hy
  have hs : Stay w I w' I := fun c hc => ⟨hc, hh c (h.imm c hc)⟩
  have hold : ∀ j y, j ≠ p → upd ρ p (some x) j = some y → ρ j = some y := fun j y hj hy => by rwa [upd_other _ _ hj] at hy
  have hown : ∀ c, Own (upd ρ p (some x)) look' c → Own ρ look c ∨ (w.heap.size ≤ c ∧ c < w'.heap.size) := by
    rintro c ⟨j, y, h1, h2, h3⟩
    by_cases e : j = p
    · subst e; rw [upd_same] at h2; cases h2; exact .inr (hx c h3)
    · exact .inl ⟨j, y, by rwa [hl j e] at h1, hold j y e h2, h3⟩
  have hlt : ∀ c, Own ρ look c → c < w.heap.size := fun c hc => (h.own c hc).1
  refine ⟨⟨fun j => ?_, fun j k y z c h1 h2 h3 h4 h5 h6 => ?_, fun c hc => ?_, fun c hc => Nat.lt_of_lt_of_le (h.imm c hc) hsz,
      fun c hc => by rw [hh c (Nat.lt_of_lt_of_le hc h.gsz)]; exact h.glob c hc, Nat.le_trans h.gsz hsz⟩,
    he, hs, hsz, fun c hc _ => hh c hc, fun c hc => ?_, fun c hc => .inl hc, ho, ht, hu⟩
  · by_cases e : j = p
    · subst e; exact hB
    · rw [hl j e]
      by_cases hj : look j = .dead
      · rw [hj]; trivial
      · exact (h.blk j).mono hs he fun y c hy hc => hh c (hlt c ⟨j, y, hj, hy, hc⟩)
  · by_cases ej : j = p <;> by_cases ek : k = p
    · rw [ej, ek]
    · subst ej; rw [upd_same] at h3; cases h3
      have := hlt c ⟨k, z, by rwa [hl k ek] at h2, hold k z ek h4, h6⟩
      have := (hx c h5).1; omega
    · subst ek; rw [upd_same] at h4; cases h4
      have := hlt c ⟨j, y, by rwa [hl j ej] at h1, hold j y ej h3, h5⟩
      have := (hx c h6).1; omega
    · exact h.inj j k y z c (by rwa [hl j ej] at h1) (by rwa [hl k ek] at h2) (hold j y ej h3) (hold k z ek h4) h5 h6
  · rcases hown c hc with o | ⟨o1, o2⟩
    · exact ⟨Nat.lt_of_lt_of_le (hlt c o) hsz, (h.own c o).2.1, (h.own c o).2.2⟩
    · exact ⟨o2, fun hi => by have := h.imm c hi; omega, Nat.le_trans h.gsz o1⟩
  · rcases hown c hc with o | o
    · exact .inl o
    · exact .inr o.1

theorem Real.move (h : Real G H0 w I ρ look) {i p : Nat} {x y : Info} {b : Nat} (hi : look i ≠ .dead) (hx : ρ i = some x) (hb : x.blk = some b) (hp : ρ p = none)
    (hy : y.blk = some b) (hli : look' i = .dead) (hl : ∀ j, j ≠ i → j ≠ p → look' j = look j)
    (hsz : w'.heap.size = w.heap.size) (hh : ∀ c, c ≠ b → w'.heap[c]? = w.heap[c]?) (hB : BR w' I (upd ρ p (some y)) p (look' p))
    (ho : w'.os = w.os) (ht : w'.tape = w.tape) (hu : w'.output = w.output) : Post G H0 w I ρ look w' I (upd ρ p (some y)) look' := by
  have hip : i ≠ p := fun e => by subst e; rw [hp] at hx; cases hx
  have hob : Own ρ look b := ⟨i, x, hi, hx, hb⟩
  have ⟨hb1, hb2, hb3⟩ := h.own b hob
  have he : Ext ρ (upd ρ p (some y)) := fun j z hz => by
    rw [upd_other]; exact hz
    intro e; subst e; rw [hp] at hz; cases hz
  have hs : Stay w I w' I := fun c hc => ⟨hc, hh c fun e => hb2 (e ▸ hc)⟩
  have hold : ∀ j z, j ≠ p → upd ρ p (some y) j = some z → ρ j = some z := fun j z hj hz => by rwa [upd_other _ _ hj] at hz
  have hdi : ∀ j, look' j ≠ .dead → j ≠ i := fun j hj e => hj (e ▸ hli)
  have hown : ∀ c, Own (upd ρ p (some y)) look' c → Own ρ look c := by
    rintro c ⟨j, z, h1, h2, h3⟩
    by_cases e : j = p
    · subst e; rw [upd_same] at h2; cases h2; rw [hy] at h3; cases h3; exact hob
    · exact ⟨j, z, by rwa [hl j (hdi j h1) e] at h1, hold j z e h2, h3⟩
  have hne : ∀ j z c, look' j ≠ .dead → j ≠ p → ρ j = some z → z.blk = some c → c ≠ b := fun j z c h1 h2 h3 h4 e =>
    hdi j h1 (h.inj j i z x b (by rwa [hl j (hdi j h1) h2] at h1) hi h3 hx (e ▸ h4) hb)
  refine ⟨⟨fun j => ?_, fun j k z u c h1 h2 h3 h4 h5 h6 => ?_, fun c hc => by rw [hsz]; exact h.own c (hown c hc), fun c hc => by rw [hsz]; exact h.imm c hc,
      fun c hc => by rw [hh c (by omega)]; exact h.glob c hc, by rw [hsz]; exact h.gsz⟩,
    he, hs, by omega, fun c _ hc => hh c fun e => hc (e ▸ hob), fun c hc => .inl (hown c hc), fun c hc => .inl hc, ho, ht, hu⟩
  · by_cases e : j = p
    · subst e; exact hB
    · by_cases hj : look' j = .dead
      · rw [hj]; trivial
      · have hji := hdi j hj
        rw [hl j hji e]
        refine (h.blk j).mono hs he fun z c hz hc => hh c (hne j z c hj e hz hc)
  · by_cases ej : j = p <;> by_cases ek : k = p
    · rw [ej, ek]
    · subst ej; rw [upd_same] at h3; cases h3; rw [hy] at h5; cases h5
      exact absurd rfl (hne k u b h2 ek (hold k u ek h4) h6)
    · subst ek; rw [upd_same] at h4; cases h4; rw [hy] at h6; cases h6
      exact absurd rfl (hne j z b h1 ej (hold j z ej h3) h5)
    · exact h.inj j k z u c (by rwa [hl j (hdi j h1) ej] at h1) (by rwa [hl k (hdi k h2) ek] at h2) (hold j z ej h3) (hold k u ek h4) h5 h6
end
end Go.AM
namespace Go.AM

def kindOk : TK → TypeDesc → Prop
  | .int k, d => d = .int k
  | .bool, d => d = .bool
  | .str, d => d = .string
  | .slice e, d => d = .slice e
  | .ptr e, d => d = .pointer e
  | .struct offs, d => ∃ fs : Array Field, d = .struct fs ∧ fs.toList.map (fun f => (f.offset, f.type)) = offs
  | .arr n e, d => d = .array n e
  | .map k v, d => d = .map k v
  | .iface, d => ∃ ms, d = .interface ms
  | .other, _ => True

def aggDesc : TypeDesc → Bool
  | .struct _ | .array _ _ => true
  | _ => false

def fieldKind : SV → TypeDesc → Prop
  | .pv (.int _) _, d => ∃ j, d = .int j
  | .pv .str _, d => d = .string
  | .pv .bool _, d => d = .bool
  | _, _ => False

def FE (P : Program) : Nat → List SV → List Field → Prop
  | _, [], [] => True
  | n, z :: zs, f :: fs => f.name ≠ "_" ∧ f.offset = n ∧ (∃ d, P.underlying f.type = some d ∧ fieldKind z d) ∧ FE P (n + 1) zs fs
  | _, _, _ => False

structure EqsOk (P : Program) (t : Nat) (zero : List SV) : Prop where
  held : P.stoodInHeld t = false
  guard : P.eqGuardType P.depth t = false
  fields : ∃ fs : Array Field, P.underlying t = some (.struct fs) ∧ FE P 0 zero fs.toList

structure TIok (P : Program) (t : Nat) (ti : TI) : Prop where
  desc : ∃ d, P.underlying t = some d ∧ kindOk ti.kind d ∧ aggDesc d = ti.agg
  info : ∃ i z, P.info? t = some i ∧ i.size = ti.size ∧ i.bytes = ti.bytes ∧ i.zero = some z ∧ (∀ w I ρ, ERs w I ρ ti.zero z.cells.toList) ∧
    (ti.agg = true → ∃ cs, z = .agg cs) ∧ (ti.agg = false → z.oneCell' = true) ∧ z.cells.size = ti.size
  ty : ∀ T, ti.ty = some T → T.size = ti.size ∧ T.isAgg = ti.agg ∧ ∃ i z, P.info? t = some i ∧ i.zero = some z ∧ ∀ w I, PR w I T T.dflt z.cells.toList
  eqs : ti.eqs = true → EqsOk P t ti.zero

section
variable {P : Program} {t : Nat} {ti : TI}

theorem TIok.run_underlying (h : TIok P t ti) (w : World) : ∃ d, (underlying t).run P w = .ok d w ∧ kindOk ti.kind d ∧ aggDesc d = ti.agg := by
  obtain ⟨d, h1, h2, h3⟩ := h.desc
  exact ⟨d, by simp [underlying, h1], h2, h3⟩

theorem TIok.run_isAgg (h : TIok P t ti) (w : World) : (isAgg t).run P w = .ok ti.agg w := by
  obtain ⟨d, h1, _, h3⟩ := h.desc
  simp only [isAgg, underlying, Sem.run_bind, run_program, Result.andThen_ok, h1, Sem.run_pure]
  rw [← h3]
  cases d <;> rfl

theorem TIok.run_sizeOf (h : TIok P t ti) (w : World) : (sizeOf t).run P w = .ok ti.size w := by
  obtain ⟨i, z, h1, h2, _⟩ := h.info
  simp [sizeOf, typeInfo, h1, h2]

theorem cell_of_heap {w : World} {b o : Nat} {arr : Array Value} {ety : TypeId} {fz : Nat × Nat} (h : w.heap[b]? = some (.cells arr ety fz)) :
    w.cell? ⟨b, o, none⟩ = arr[o]? := by simp [World.cell?, h]

theorem cellsAt_of_heap {w : World} {b o : Nat} {arr : Array Value} {ety : TypeId} {fz : Nat × Nat} (h : w.heap[b]? = some (.cells arr ety fz)) {vs : List Value}
    (hv : ∀ j v, vs[j]? = some v → arr.toList[o + j]? = some v) : cellsAt w b o vs := by
  intro j v hj
  rw [cell_of_heap h, ← Array.getElem?_toList]; exact hv j v hj

theorem cellsAt_drop_take {w : World} {b o n : Nat} {arr : Array Value} {ety : TypeId} {fz : Nat × Nat} (h : w.heap[b]? = some (.cells arr ety fz)) :
    cellsAt w b o ((arr.toList.drop o).take n) := by
  refine cellsAt_of_heap h fun j v hj => ?_
  rw [List.getElem?_take] at hj
  split at hj
  · rwa [List.getElem?_drop] at hj
  · cases hj

theorem cellsAt.sub {w : World} {b o : Nat} {vs us : List Value} (h : cellsAt w b o vs) (k : Nat) (hk : ∀ j u, us[j]? = some u → vs[k + j]? = some u) : cellsAt w b (o + k) us := by
  intro j u hj
  have := h (k + j) u (hk j u hj)
  rwa [← Nat.add_assoc] at this

theorem addr_add (b o n : Nat) : (⟨b, o, none⟩ : Addr).add n = ⟨b, o + n, none⟩ := by
  unfold Addr.add; split
  · simp [*]
  · rfl

theorem TIok.run_loadVar (h : TIok P t ti) {w : World} {b o : Nat} {vs : List Value} (hc : cellsAt w b o vs) (hl : vs.length = ti.size) :
    (ti.agg = true → (loadVar t ⟨b, o, none⟩).run P w = .ok (.agg vs.toArray) w) ∧
    (ti.agg = false → ∀ v, vs = [v] → (loadVar t ⟨b, o, none⟩).run P w = .ok v w) := by
  constructor
  · intro ha
    have := run_loadCells_list (P := P) w ⟨b, o, none⟩ vs (fun j v hj => by rw [addr_add]; exact hc j v hj)
    simp [loadVar, h.run_isAgg, ha, h.run_sizeOf, ← hl, this]
  · intro ha v hv
    subst hv
    have := hc 0 v rfl
    simp only [Nat.add_zero] at this
    simp [loadVar, h.run_isAgg, ha, this]

structure OnlyAt (b : Nat) (w w' : World) : Prop where
  other : ∀ c, c ≠ b → w'.heap[c]? = w.heap[c]?
  size : w'.heap.size = w.heap.size
  os : w'.os = w.os
  tape : w'.tape = w.tape
  output : w'.output = w.output

theorem OnlyAt.refl (b : Nat) (w : World) : OnlyAt b w w := ⟨fun _ _ => rfl, rfl, rfl, rfl, rfl⟩
theorem OnlyAt.trans {b : Nat} {w w' w'' : World} (h : OnlyAt b w w') (h' : OnlyAt b w' w'') : OnlyAt b w w'' :=
  ⟨fun c hc => (h'.other c hc).trans (h.other c hc), h'.size.trans h.size, h'.os.trans h.os, h'.tape.trans h.tape, h'.output.trans h.output⟩

theorem setCell_only (w : World) (b o : Nat) (v : Value) {arr : Array Value} {ety : TypeId} {fz : Nat × Nat} (h : w.heap[b]? = some (.cells arr ety fz)) :
    OnlyAt b w (w.setCell ⟨b, o, none⟩ v) ∧ (w.setCell ⟨b, o, none⟩ v).heap[b]? = some (.cells (arr.setIfInBounds o v) ety fz) := by
  refine ⟨⟨fun c hc => ?_, by simp, rfl, rfl, rfl⟩, ?_⟩
  · simp only [World.setCell, Array.getElem?_modify]
    rw [if_neg (fun e => hc e.symm)]
  · simp [World.setCell, Array.getElem?_modify, h]

theorem frozen_none {w : World} {b o : Nat} {arr : Array Value} {ety : TypeId} {fz : Nat × Nat} (h : w.heap[b]? = some (.cells arr ety fz)) (hf : nofrz arr.size fz) (ho : o < arr.size) :
    w.frozen? ⟨b, o, none⟩ = false := by
  have := hf o ho
  simp only [World.frozen?, h, Bool.and_eq_false_iff, decide_eq_false_iff_not]
  omega

theorem splice_step {α : Type} (l : List α) (k : Nat) (v : α) (vs : List α) (h : k < l.length) :
    (l.set k v).take (k + 1) ++ vs ++ (l.set k v).drop (k + 1 + vs.length) = l.take k ++ (v :: vs) ++ l.drop (k + (vs.length + 1)) := by
  have e1 : (l.set k v).take (k + 1) = l.take k ++ [v] := by
    rw [List.take_succ_eq_append_getElem (by simpa using h)]
    simp [List.take_set_of_le]
  have e2 : (l.set k v).drop (k + 1 + vs.length) = l.drop (k + (vs.length + 1)) := by
    rw [List.drop_set_of_lt (by omega)]
    congr 1; omega
  rw [e1, e2]; simp

theorem run_storeCells {b o : Nat} {ety : TypeId} {fz : Nat × Nat} : ∀ (vs : List Value) (i : Nat) (w : World) (arr : Array Value), w.heap[b]? = some (.cells arr ety fz) →
    nofrz arr.size fz → o + i + vs.length ≤ arr.size → (∀ v ∈ vs, v.oneCell' = true) →
    ∃ w' arr', (storeCells ⟨b, o, none⟩ vs i).run P w = .ok () w' ∧ OnlyAt b w w' ∧ w'.heap[b]? = some (.cells arr' ety fz) ∧
      arr'.toList = arr.toList.take (o + i) ++ vs ++ arr.toList.drop (o + i + vs.length)
  | [], i, w, arr, h, _, _, _ => ⟨w, arr, by simp [storeCells], .refl b w, h, by simp⟩
  | v :: vs, i, w, arr, h, hf, hl, h1 => by
    simp only [List.length_cons] at hl
    have hv := h1 v (by simp)
    have hlt : o + i < arr.size := by omega
    obtain ⟨g1, g2⟩ := setCell_only w b (o + i) v h
    have hsz : (arr.setIfInBounds (o + i) v).size = arr.size := by simp
    obtain ⟨w', arr', r1, r2, r3, r4⟩ := run_storeCells (o := o) vs (i + 1) (w.setCell ⟨b, o + i, none⟩ v) _ g2 (by rw [hsz]; exact hf) (by rw [hsz]; omega) (fun u hu => h1 u (by simp [hu]))
    refine ⟨w', arr', ?_, g1.trans r2, r3, ?_⟩
    · simp only [storeCells, Sem.run_bind, addr_add]
      rw [run_store P w _ v _ hv, cell_of_heap h, Array.getElem?_eq_getElem hlt]
      simp only [frozen_none h hf hlt, Bool.false_eq_true, if_false, Result.andThen_ok]
      exact r1
    · rw [r4, Array.toList_setIfInBounds]
      have := splice_step arr.toList (o + i) v vs (by simp; omega)
      simp only [List.length_cons]
      rw [← this, show o + (i + 1) = o + i + 1 by omega]

theorem TIok.run_storeVar (h : TIok P t ti) {w : World} {b o : Nat} {v : Value} {arr : Array Value} {ety : TypeId} {fz : Nat × Nat} (hb : w.heap[b]? = some (.cells arr ety fz))
    (hf : nofrz arr.size fz) (hl : v.cells.size = ti.size) (ho : o + ti.size ≤ arr.size) (h1 : ∀ u ∈ v.cells.toList, u.oneCell' = true) :
    ∃ w' arr', (storeVar t ⟨b, o, none⟩ v).run P w = .ok () w' ∧ OnlyAt b w w' ∧ w'.heap[b]? = some (.cells arr' ety fz) ∧
      arr'.toList = arr.toList.take o ++ v.cells.toList ++ arr.toList.drop (o + ti.size) := by
  obtain ⟨w', arr', r1, r2, r3, r4⟩ := run_storeCells (P := P) (b := b) (o := o) v.cells.toList 0 w arr hb hf (by simp; omega) h1
  refine ⟨w', arr', ?_, r2, r3, by simpa [hl] using r4⟩
  simp [storeVar, h.run_sizeOf, hl, r1]

theorem TIok.run_zero (h : TIok P t ti) (w : World) : ∃ z, (zeroValue t).run P w = .ok z w ∧ (∀ w I ρ, ERs w I ρ ti.zero z.cells.toList) := by
  obtain ⟨i, z, h1, _, _, h4, h5, _⟩ := h.info
  exact ⟨z, by simp [zeroValue, typeInfo, h1, h4], h5⟩
end
end Go.AM
namespace Go.AM

def applyL (look : Look) (δ : Delta) : Look := δ.foldl (fun l q => upd l q.1 q.2) look

def Births (ρ ρ' : Nat → Option Info) (δ : Delta) : Prop := ∀ i y, ρ' i = some y → ρ i = some y ∨ ∃ B, (i, B) ∈ δ

def Fresh (ρ : Nat → Option Info) (look : Look) (p : Nat) (δ : Delta) : Prop := ∀ i B, (i, B) ∈ δ → p ≤ i → look i = .dead ∧ ρ i = none

structure OpPost (G : Nat) (H0 : Array Obj) (w : World) (I : Nat → Prop) (ρ : Nat → Option Info) (look : Look) (v : SV) (δ : Delta)
    (x : Value) (w' : World) (I' : Nat → Prop) (ρ' : Nat → Option Info) : Prop where
  post : Post G H0 w I ρ look w' I' ρ' (applyL look δ)
  fr : FR w' I' ρ' v x
  births : Births ρ ρ' δ

def Sound (P : Program) (G : Nat) (H0 : Array Obj) (op : Op) (σ : Operand → SV) (look : Look) (p : Nat) (v : SV) (δ : Delta) : Prop :=
  ∀ (o : Oper) (a : Act) (w : World) (I : Nat → Prop) (ρ : Nat → Option Info), o.op = op → Real G H0 w I ρ look →
    (∀ x, FR w I ρ (σ x) (a.eval x)) → Fresh ρ look p δ →
    ∀ (next : Act → World → Prop) (Q : Exit → Act → World → Prop),
      (∀ x w' I' ρ', OpPost G H0 w I ρ look v δ x w' I' ρ' → next (a.put o.dst x) w') → o.wp P a w next Q

theorem Sound.of {P : Program} {G : Nat} {H0 : Array Obj} {op : Op} {σ : Operand → SV} {look : Look} {p : Nat} {v : SV} {δ : Delta}
    (h : ∀ (o : Oper) (a : Act) (w : World) (I : Nat → Prop) (ρ : Nat → Option Info), o.op = op → Real G H0 w I ρ look →
      (∀ x, FR w I ρ (σ x) (a.eval x)) → Fresh ρ look p δ →
      ∃ x w' I' ρ', ((execOp a.eval o).run P w = .ok (.value x) w' ∨ ((execOp a.eval o).run P w = .ok .skip w' ∧ x = undef)) ∧ OpPost G H0 w I ρ look v δ x w' I' ρ') :
    Sound P G H0 op σ look p v δ := by
  intro o a w I ρ ho hr hv hf next Q hn
  obtain ⟨x, w', I', ρ', h1, h2⟩ := h o a w I ρ ho hr hv hf
  have := hn x w' I' ρ' h2
  rcases h1 with h1 | ⟨h1, rfl⟩
  · simpa only [Oper.wp, h1, Oper.upon] using this
  · simpa only [Oper.wp, h1, Oper.upon] using this

theorem Sound.calm {P : Program} {G : Nat} {H0 : Array Obj} {op : Op} {σ : Operand → SV} {look : Look} {p : Nat} {v : SV}
    (h : ∀ (o : Oper) (a : Act) (w : World) (I : Nat → Prop) (ρ : Nat → Option Info), o.op = op → Real G H0 w I ρ look →
      (∀ x, FR w I ρ (σ x) (a.eval x)) → ∃ x, (execOp a.eval o).run P w = .ok (.value x) w ∧ FR w I ρ v x) :
    Sound P G H0 op σ look p v [] :=
  Sound.of fun o a w I ρ ho hr hv _ =>
    let ⟨x, h1, h2⟩ := h o a w I ρ ho hr hv
    ⟨x, w, I, ρ, .inl h1, Post.refl hr, h2, fun _ _ h => .inl h⟩

section
variable {R : Type}

def OpOk (P : Program) (G : Nat) (H0 : Array Obj) (E : Env R) (op : Op) (σ : Operand → SV) (look : Look) (p : Nat) (k : KOp R) (r : R) : Prop :=
  ∃ v δ τ, k v δ τ = some r ∧
    (∀ σ' look', (∀ x, x ∈ op.operands.toList → σ' x = σ x) → (∀ i, i ∈ τ → look' i = look i) → ∀ k' : KOp R, xop E op σ' look' p k' = k' v δ τ) ∧
    Sound P G H0 op σ look p v δ

variable {P : Program} {G : Nat} {H0 : Array Obj} {E : Env R} {σ : Operand → SV} {look : Look} {p : Nat} {k : KOp R} {r : R}

theorem move_ok {x : Operand} (h : xop E (.move x) σ look p k = some r) : OpOk P G H0 E (.move x) σ look p k r := by
  refine ⟨σ x, [], [], h, fun σ' look' hσ _ k' => ?_, Sound.calm fun o a w I ρ ho _ hv => ⟨a.eval x, by simp [execOp, ho], hv x⟩⟩
  simp [xop, hσ x (by simp [Op.operands])]

theorem assign_ok {x : Operand} (h : xop E (.assign x) σ look p k = some r) : OpOk P G H0 E (.assign x) σ look p k r := by
  refine ⟨σ x, [], [], h, fun σ' look' hσ _ k' => ?_, Sound.calm fun o a w I ρ ho _ hv => ⟨a.eval x, by simp [execOp, ho], hv x⟩⟩
  simp [xop, hσ x (by simp [Op.operands])]

theorem FR.bool {w : World} {I : Nat → Prop} {ρ : Nat → Option Info} {b : Bool} {x : Value} (h : FR w I ρ (.pv .bool b) x) : x = .bool b := by
  rw [FR, PR] at h; simpa using h
theorem FR.int {w : World} {I : Nat → Prop} {ρ : Nat → Option Info} {j : IntKind} {n : Int} {x : Value} (h : FR w I ρ (.pv (.int j) n) x) : x = .int j n := by
  rw [FR, PR] at h; simpa using h
theorem FR.str {w : World} {I : Nat → Prop} {ρ : Nat → Option Info} {s : List UInt8} {x : Value} (h : FR w I ρ (.pv .str s) x) : x = .string ⟨s.toArray⟩ := by
  rw [FR, PR] at h; simpa using h
theorem FR.int_mk {w : World} {I : Nat → Prop} {ρ : Nat → Option Info} {j : IntKind} {n : Int} : FR w I ρ (.pv (.int j) n) (.int j n) := by rw [FR, PR]
theorem FR.bool_mk {w : World} {I : Nat → Prop} {ρ : Nat → Option Info} {b : Bool} : FR w I ρ (.pv .bool b) (.bool b) := by rw [FR, PR]
theorem FR.str_mk {w : World} {I : Nat → Prop} {ρ : Nat → Option Info} {s : List UInt8} : FR w I ρ (.pv .str s) (.string ⟨s.toArray⟩) := by rw [FR, PR]

theorem pick_ok {c x y : Operand} (h : xop E (.pick c x y) σ look p k = some r) : OpOk P G H0 E (.pick c x y) σ look p k r := by
  simp only [xop] at h
  split at h
  case h_1 t hc =>
    cases t with
    | true =>
      refine ⟨σ x, [], [], h, fun σ' look' hσ _ k' => ?_, Sound.calm fun o a w I ρ ho _ hv => ⟨a.eval x, ?_, hv x⟩⟩
      · simp only [Op.operands, List.mem_cons, List.not_mem_nil, or_false, forall_eq_or_imp, forall_eq] at hσ
        simp [xop, hσ, hc]
      · have := hv c; rw [hc] at this
        simp [execOp, ho, this.bool, asBool]
    | false =>
      refine ⟨σ y, [], [], h, fun σ' look' hσ _ k' => ?_, Sound.calm fun o a w I ρ ho _ hv => ⟨a.eval y, ?_, hv y⟩⟩
      · simp only [Op.operands, List.mem_cons, List.not_mem_nil, or_false, forall_eq_or_imp, forall_eq] at hσ
        simp [xop, hσ, hc]
      · have := hv c; rw [hc] at this
        simp [execOp, ho, this.bool, asBool]
  case h_2 => cases h

theorem FRs.get {w : World} {I : Nat → Prop} {ρ : Nat → Option Info} : ∀ {vs : List SV} {xs : List Value} {i : Nat} {v : SV}, FRs w I ρ vs xs → vs[i]? = some v → ∃ x, xs[i]? = some x ∧ FR w I ρ v x
  | _ :: _, _, 0, v, h, hi => by
    rw [FRs] at h; obtain ⟨x, r, rfl, h1, _⟩ := h
    simp at hi; subst hi; exact ⟨x, rfl, h1⟩
  | _ :: vs, _, i + 1, v, h, hi => by
    rw [FRs] at h; obtain ⟨x, r, rfl, _, h2⟩ := h
    obtain ⟨y, h3, h4⟩ := FRs.get (vs := vs) (i := i) h2 (by simpa using hi)
    exact ⟨y, by simpa using h3, h4⟩
  | [], _, i, _, _, hi => by simp at hi

theorem extract_ok {x : Operand} {ix : Nat} (h : xop E (.extract x ix) σ look p k = some r) : OpOk P G H0 E (.extract x ix) σ look p k r := by
  simp only [xop] at h
  split at h
  case h_1 vs hx =>
    split at h
    case h_1 v hv =>
      refine ⟨v, [], [], h, fun σ' look' hσ _ k' => ?_, Sound.calm fun o a w I ρ ho _ hr => ?_⟩
      · simp [xop, hσ x (by simp [Op.operands]), hx, hv]
      · have := hr x; rw [hx, FR] at this
        obtain ⟨cs, e, h2⟩ := this
        obtain ⟨y, h3, h4⟩ := FRs.get h2 hv
        refine ⟨y, ?_, h4⟩
        rw [Array.getElem?_toList] at h3
        simp [execOp, ho, e, Instr.extract, h3]
    case h_2 => cases h
  case h_2 => cases h

theorem makeFunc_ok {fn : Fn} {first caps : Array Operand} (h : xop E (.makeFunc fn first caps) σ look p k = some r) : OpOk P G H0 E (.makeFunc fn first caps) σ look p k r := by
  cases fn with
  | func f =>
    simp only [xop] at h
    split at h
    case h_1 hf =>
      have hf' : first = #[] := by cases first; simp at hf; simp [hf]
      subst hf'
      refine ⟨_, [], [], h, fun σ' look' hσ _ k' => ?_, Sound.calm fun o a w I ρ ho _ hr => ⟨.func (.func f) #[] (caps.map a.eval), ?_, ?_⟩⟩
      · have : List.map σ' caps.toList = List.map σ caps.toList := List.map_congr_left fun x hx => hσ x (by simpa [Op.operands] using hx)
        simp [xop, this]
      · simp [execOp, ho, Instr.makeFunc]
      · rw [FR]
        refine ⟨_, rfl, ?_⟩
        rw [Array.toList_map]
        generalize caps.toList = l
        induction l with
        | nil => simp [FRs]
        | cons x l ih => rw [List.map_cons, FRs]; exact ⟨_, _, rfl, hr x, ih⟩
    case h_2 => cases h
  | _ => simp [xop] at h

theorem unOp_ok {op : UnOp} {t : TypeId} {x : Operand} (h : xop E (.unOp op t x) σ look p k = some r) : OpOk P G H0 E (.unOp op t x) σ look p k r := by
  simp only [xop, xun] at h
  split at h
  case h_1 j n hx =>
    refine ⟨_, [], [], h, fun σ' look' hσ _ k' => ?_, Sound.calm fun o a w I ρ ho _ hr => ⟨_, ?_, FR.int_mk⟩⟩
    · simp [xop, xun, hσ x (by simp [Op.operands]), hx]
    · have := hr x; rw [hx] at this
      simp [execOp, ho, this.int, Op.unary, Op.intArith]
  case h_2 j n hx =>
    refine ⟨_, [], [], h, fun σ' look' hσ _ k' => ?_, Sound.calm fun o a w I ρ ho _ hr => ⟨_, ?_, FR.int_mk⟩⟩
    · simp [xop, xun, hσ x (by simp [Op.operands]), hx]
    · have := hr x; rw [hx] at this
      simp [execOp, ho, this.int, Op.unary, Op.intBits, ibits]
  case h_3 b hx =>
    refine ⟨_, [], [], h, fun σ' look' hσ _ k' => ?_, Sound.calm fun o a w I ρ ho _ hr => ⟨_, ?_, FR.bool_mk⟩⟩
    · simp [xop, xun, hσ x (by simp [Op.operands]), hx]
    · have := hr x; rw [hx] at this
      simp [execOp, ho, this.bool, Op.unary]
  case h_4 => cases h
end
end Go.AM
set_option linter.unusedSimpArgs false
set_option linter.unusedVariables false
namespace Go.AM
section
variable {R : Type} {P : Program} {G : Nat} {H0 : Array Obj} {E : Env R} {σ : Operand → SV} {look : Look} {p : Nat} {k : KOp R} {r : R}

structure TabOk (P : Program) (E : Env R) : Prop where
  tab : ∀ t ti, E.tab t = some ti → TIok P t ti

theorem subAt_pr {w : World} {I : Nat → Prop} : ∀ {a want : Ty} {off : Nat} {x : a.D} {y : want.D} {cs : List Value}, subAt a off want x = some y → PR w I a x cs →
    ∃ l m r, cs = l ++ m ++ r ∧ l.length = off ∧ PR w I want y m
  | .prod a b, want, off, x, y, cs, h, hp => by
    rw [subAt] at h
    split at h
    case isTrue hc =>
      obtain ⟨e, he⟩ := castTy_eq h
      subst e; simp at he; subst he
      exact ⟨[], cs, [], by simp, by simp [hc.1], hp⟩
    case isFalse =>
      rw [PR] at hp
      obtain ⟨l1, r1, rfl, h1, h2⟩ := hp
      split at h
      case isTrue hlt =>
        obtain ⟨l, m, r, rfl, hl, hm⟩ := subAt_pr h h1
        exact ⟨l, m, r ++ r1, by simp, hl, hm⟩
      case isFalse hge =>
        obtain ⟨l, m, r, rfl, hl, hm⟩ := subAt_pr h h2
        refine ⟨l1 ++ l, m, r, by simp, ?_, hm⟩
        have := h1.len
        simp only [List.length_append]; omega
  | .int _, want, off, x, y, cs, h, hp => leaf h hp (by intros; rfl)
  | .bool, want, off, x, y, cs, h, hp => leaf h hp (by intros; rfl)
  | .str, want, off, x, y, cs, h, hp => leaf h hp (by intros; rfl)
  | .unit, want, off, x, y, cs, h, hp => leaf h hp (by intros; rfl)
  | .sl _, want, off, x, y, cs, h, hp => leaf h hp (by intros; rfl)
  | .ptr _, want, off, x, y, cs, h, hp => leaf h hp (by intros; rfl)
  | .arr _ _, want, off, x, y, cs, h, hp => leaf h hp (by intros; rfl)
  | .err, want, off, x, y, cs, h, hp => leaf h hp (by intros; rfl)
where
  leaf {a want : Ty} {off : Nat} {x : a.D} {y : want.D} {cs : List Value} (h : subAt a off want x = some y) (hp : PR w I a x cs)
      (e : ∀ off want x, subAt a off want x = if off = 0 then castTy a want x else none) : ∃ l m r, cs = l ++ m ++ r ∧ l.length = off ∧ PR w I want y m := by
    rw [e] at h
    split at h
    case isTrue hc =>
      obtain ⟨e', he⟩ := castTy_eq h
      subst e'; simp at he; subst he
      exact ⟨[], cs, [], by simp, by simp [hc], hp⟩
    case isFalse => cases h

theorem deref_some {α : Type} {o : Option α} {f : α → Option R} {r : R} (h : deref o f = some r) : ∃ x, o = some x ∧ f x = some r := by
  cases o with
  | none => cases h
  | some x => exact ⟨x, rfl, h⟩

theorem nilCheck_ok {x : Operand} (h : xop E (.nilCheck x) σ look p k = some r) : OpOk P G H0 E (.nilCheck x) σ look p k r := by
  simp only [xop] at h
  split at h
  case h_1 i c hx =>
    refine ⟨_, [], [], h, fun σ' look' hσ _ k' => by simp [xop, hσ x (by simp [Op.operands]), hx], Sound.calm fun o a w I ρ ho _ hr => ?_⟩
    have := hr x; rw [hx] at this
    refine ⟨_, ?_, this⟩
    rw [FR] at this; obtain ⟨y, b, _, _, e⟩ := this
    simp [execOp, ho, e]
  case h_2 i c j hx =>
    refine ⟨_, [], [], h, fun σ' look' hσ _ k' => by simp [xop, hσ x (by simp [Op.operands]), hx], Sound.calm fun o a w I ρ ho _ hr => ?_⟩
    have := hr x; rw [hx] at this
    refine ⟨_, ?_, this⟩
    rw [FR] at this; obtain ⟨y, b, _, _, e, _⟩ := this
    simp [execOp, ho, e]
  case h_3 hx =>
    refine ⟨_, [], [], h, fun σ' look' hσ _ k' => by simp [xop, hσ x (by simp [Op.operands]), hx], Sound.calm fun o a w I ρ ho _ hr => ?_⟩
    have := hr x; rw [hx] at this
    refine ⟨_, ?_, this⟩
    rw [FR] at this; obtain ⟨y, b, _, _, e, _⟩ := this
    simp [execOp, ho, e]
  case h_4 t o' hx =>
    replace h := deref_some h
    obtain ⟨y, rfl, h⟩ := h
    refine ⟨_, [], [], h, fun σ' look' hσ _ k' => by simp [xop, hσ x (by simp [Op.operands]), hx, deref], Sound.calm fun o a w I ρ ho _ hr => ?_⟩
    have := hr x; rw [hx] at this
    refine ⟨_, ?_, this⟩
    rw [FR, PR] at this; obtain ⟨b, c, cs, _, e, _⟩ := this
    simp at e
    simp [execOp, ho, e]
  case h_5 f cs hx =>
    refine ⟨_, [], [], h, fun σ' look' hσ _ k' => by simp [xop, hσ x (by simp [Op.operands]), hx], Sound.calm fun o a w I ρ ho _ hr => ?_⟩
    have := hr x; rw [hx] at this
    refine ⟨_, ?_, this⟩
    rw [FR] at this; obtain ⟨y, e, _⟩ := this
    simp [execOp, ho, e]
  case h_6 => cases h

theorem TIok.struct_field {P : Program} {s : Nat} {ti : TI} (h : TIok P s ti) {offs : List (Nat × Nat)} (hk : ti.kind = .struct offs) {f off ft : Nat} (hf : offOf offs f = some (off, ft)) :
    ∃ fs fd, P.underlying s = some (.struct fs) ∧ fs[f]? = some fd ∧ fd.offset = off ∧ fd.type = ft := by
  obtain ⟨d, h1, h2, _⟩ := h.desc
  rw [hk] at h2
  obtain ⟨fs, rfl, h3⟩ := h2
  have : (fs.toList.map fun f => (f.offset, f.type))[f]? = some (off, ft) := by rw [h3]; exact hf
  rw [List.getElem?_map] at this
  obtain ⟨fd, h4, h5⟩ := Option.map_eq_some_iff.1 this
  refine ⟨fs, fd, h1, by rw [← Array.getElem?_toList]; exact h4, ?_, ?_⟩
  · exact congrArg Prod.fst h5
  · exact congrArg Prod.snd h5

theorem run_fieldAt {P : Program} {s : Nat} {ti tf : TI} (h : TIok P s ti) {offs : List (Nat × Nat)} (hk : ti.kind = .struct offs) {f off ft : Nat} (hf : offOf offs f = some (off, ft))
    (h' : TIok P ft tf) (hz : tf.size ≠ 0) (b o : Nat) (w : World) : (Instr.fieldAt s (.pointer (some ⟨b, o, none⟩)) f).run P w = .ok (.pointer (some ⟨b, o + off, none⟩)) w := by
  obtain ⟨fs, fd, h1, h2, h3, h4⟩ := h.struct_field hk hf
  subst h3; subst h4
  simp [Instr.fieldAt, underlying, h1, h2, Instr.sureAddr, fieldPlace, h'.run_sizeOf, hz, addr_add]

theorem fieldAddr_ok (hE : TabOk P E) {s f : Nat} {x : Operand} (h : xop E (.fieldAddr s x f) σ look p k = some r) : OpOk P G H0 E (.fieldAddr s x f) σ look p k r := by
  simp only [xop, xfieldAddr] at h
  split at h
  case h_2 => cases h
  case h_1 ti offs sz ag by_ ty zr eq ht =>
  split at h
  case h_2 => cases h
  case h_1 off ft hf =>
  split at h
  case h_2 => cases h
  case h_1 tf htf =>
  split at h
  case isTrue => cases h
  case isFalse hz =>
  have o1 := hE.tab _ _ ht
  have o2 := hE.tab _ _ htf
  have run := fun b o w => run_fieldAt (f := f) o1 rfl hf o2 hz b o w
  split at h
  case h_1 i c hx =>
    refine ⟨_, [], [], h, fun σ' look' hσ _ k' => by simp [xop, xfieldAddr, ht, hf, htf, hz, hσ x (by simp [Op.operands]), hx], Sound.calm fun o a w I ρ ho _ hr => ?_⟩
    have := hr x; rw [hx, FR] at this
    obtain ⟨y, b, e1, e2, e⟩ := this
    exact ⟨_, by simp [execOp, ho, e, run]; rfl, by rw [FR]; exact ⟨y, b, e1, e2, rfl⟩⟩
  case h_2 i c j hx =>
    refine ⟨_, [], [], h, fun σ' look' hσ _ k' => by simp [xop, xfieldAddr, ht, hf, htf, hz, hσ x (by simp [Op.operands]), hx], Sound.calm fun o a w I ρ ho _ hr => ?_⟩
    have := hr x; rw [hx, FR] at this
    obtain ⟨y, b, e1, e2, e, e3⟩ := this
    exact ⟨_, by simp [execOp, ho, e, run]; rfl, by rw [FR]; exact ⟨y, b, e1, e2, by rw [Nat.add_assoc], e3⟩⟩
  case h_3 i c n m e' j hx =>
    refine ⟨_, [], [], h, fun σ' look' hσ _ k' => by simp [xop, xfieldAddr, ht, hf, htf, hz, hσ x (by simp [Op.operands]), hx], Sound.calm fun o a w I ρ ho _ hr => ?_⟩
    have := hr x; rw [hx, FR] at this
    obtain ⟨y, b, e1, e2, e, e3⟩ := this
    exact ⟨_, by simp [execOp, ho, e, run]; rfl, by rw [FR]; exact ⟨y, b, e1, e2, by rw [Nat.add_assoc], e3⟩⟩
  case h_4 t o' hx =>
    split at h
    case h_2 => cases h
    case h_1 want hw =>
    replace h := deref_some h
    obtain ⟨y, rfl, h⟩ := h
    split at h
    case h_2 => cases h
    case h_1 z hz' =>
    refine ⟨_, [], [], h, fun σ' look' hσ _ k' => by simp [xop, xfieldAddr, ht, hf, htf, hz, hσ x (by simp [Op.operands]), hx, hw, deref, hz'], Sound.calm fun o a w I ρ ho _ hr => ?_⟩
    have := hr x; rw [hx, FR, PR] at this
    obtain ⟨b, c, cs, hI, e, h1, h2⟩ := this
    simp at e
    obtain ⟨l, m, r', rfl, hl, hm⟩ := subAt_pr hz' h1
    refine ⟨_, by simp [execOp, ho, e, run]; rfl, ?_⟩
    rw [FR, PR]
    refine ⟨b, c + off, m, hI, rfl, hm, h2.sub off fun j u hj => ?_⟩
    have hlt := (List.getElem?_eq_some_iff.1 hj).1
    rw [List.getElem?_append_left (by simp only [List.length_append]; omega), List.getElem?_append_right (by omega)]
    rw [← hj]; congr 1; omega
  case h_5 => cases h

theorem loadE_some {ti : TI} {o : Option (List SV)} {kk : SV → Option R} {r : R} (h : loadE ti o kk = some r) :
    ∃ es v, o = some es ∧ kk v = some r ∧ (∀ kk' : SV → Option R, loadE ti o kk' = kk' v) ∧
      ((ti.agg = true ∧ ∃ l, takeC es ti.size = some l ∧ v = .agg l) ∨ (ti.agg = false ∧ ∃ r, es = v :: r ∧ esize v = 1)) := by
  cases o with
  | none => cases h
  | some es =>
    simp only [loadE] at h ⊢
    split at h
    case h_1 ha =>
      split at h
      case h_1 l hl => exact ⟨es, .agg l, rfl, h, fun kk' => by simp [ha, hl], .inl ⟨ha, l, hl, rfl⟩⟩
      case h_2 => cases h
    case h_2 ha =>
      cases es with
      | nil => cases h
      | cons e r' =>
        simp only at h
        split at h
        case isTrue he => exact ⟨_, e, rfl, h, fun kk' => by simp [ha, he], .inr ⟨ha, r', rfl, he⟩⟩
        case isFalse => cases h

theorem loadE_fr {w : World} {I : Nat → Prop} {ρ : Nat → Option Info} {ti : TI} {es : List SV} {v : SV} {cs : List Value} (hc : ERs w I ρ es cs)
    (h : (ti.agg = true ∧ ∃ l, takeC es ti.size = some l ∧ v = .agg l) ∨ (ti.agg = false ∧ ∃ r, es = v :: r ∧ esize v = 1)) :
    (ti.agg = true ∧ ti.size ≤ cs.length ∧ FR w I ρ v (.agg (cs.take ti.size).toArray)) ∨ (ti.agg = false ∧ ∃ x r, cs = x :: r ∧ x.oneCell' = true ∧ FR w I ρ v x) := by
  rcases h with ⟨ha, l, hl, rfl⟩ | ⟨ha, r, rfl, h1⟩
  · obtain ⟨h2, h3⟩ := hc.takeC hl
    exact .inl ⟨ha, h2, by rw [FR]; exact ⟨_, rfl, by simpa using h3⟩⟩
  · obtain ⟨l, r', rfl, h2, h3⟩ := ERs.cons.1 hc
    obtain ⟨x, rfl, h4, h5⟩ := h2.fr h1
    exact .inr ⟨ha, x, r', rfl, h4, h5⟩

theorem TIok.run_part {P : Program} {t : Nat} {ti : TI} (h : TIok P t ti) (cs : Array Value) (off : Nat) (w : World) :
    (ti.agg = true → (part t cs off).run P w = .ok (.agg (cs.extract off (off + ti.size))) w) ∧ (ti.agg = false → ∀ x, cs[off]? = some x → (part t cs off).run P w = .ok x w) := by
  constructor
  · intro ha; simp [part, h.run_isAgg, ha, h.run_sizeOf]
  · intro ha x hx; simp [part, h.run_isAgg, ha, hx]

theorem part_fr {w : World} {I : Nat → Prop} {ρ : Nat → Option Info} {P : Program} {t : Nat} {ti : TI} (hti : TIok P t ti) {es : List SV} {v : SV} {cs : Array Value} {off : Nat}
    (hc : ERs w I ρ es (cs.toList.drop off))
    (h : (ti.agg = true ∧ ∃ l, takeC es ti.size = some l ∧ v = .agg l) ∨ (ti.agg = false ∧ ∃ r, es = v :: r ∧ esize v = 1)) :
    ∃ x, (part t cs off).run P w = .ok x w ∧ FR w I ρ v x := by
  rcases loadE_fr hc h with ⟨ha, h2, h3⟩ | ⟨ha, x, r, h2, _, h4⟩
  · refine ⟨_, (hti.run_part cs off w).1 ha, ?_⟩
    have : cs.extract off (off + ti.size) = ((cs.toList.drop off).take ti.size).toArray := by
      apply Array.ext'
      simp [Array.toList_extract, List.extract, Nat.add_sub_cancel_left]
    rw [this]; exact h3
  · refine ⟨x, (hti.run_part cs off w).2 ha x ?_, h4⟩
    have : (cs.toList.drop off)[0]? = some x := by rw [h2]; rfl
    rwa [List.getElem?_drop, Nat.add_zero, Array.getElem?_toList] at this

theorem field_ok (hE : TabOk P E) {t f : Nat} {x : Operand} (h : xop E (.field t x f) σ look p k = some r) : OpOk P G H0 E (.field t x f) σ look p k r := by
  simp only [xop] at h
  split at h
  case h_2 => cases h
  case h_1 offs sz ag by_ ty zr eq es ht hx =>
  split at h
  case h_2 => cases h
  case h_1 off ft hf =>
  split at h
  case h_2 => cases h
  case h_1 ti hti =>
  obtain ⟨es', v, hs, hk, hkk, hcase⟩ := loadE_some h
  refine ⟨v, [], [], hk, fun σ' look' hσ _ k' => ?_, Sound.calm fun o a w I ρ ho _ hr => ?_⟩
  · have := hkk fun v => k' v [] []
    simp [xop, ht, hσ x (by simp [Op.operands]), hx, hf, hti, this]
  · have := hr x; rw [hx, FR] at this
    obtain ⟨cs, e, h2⟩ := this
    obtain ⟨h3, h4⟩ := h2.skip hs
    obtain ⟨y, h5, h6⟩ := part_fr (hE.tab _ _ hti) h4 hcase
    obtain ⟨fs, fd, g1, g2, g3, g4⟩ := (hE.tab _ _ ht).struct_field rfl hf
    refine ⟨y, ?_, h6⟩
    subst g3; subst g4
    simp [execOp, ho, e, Instr.field, underlying, g1, g2, asAgg, h5]
end
end Go.AM
set_option linter.unusedSimpArgs false
set_option linter.unusedVariables false
namespace Go.AM
section
variable {R : Type} {P : Program} {G : Nat} {H0 : Array Obj} {E : Env R} {σ : Operand → SV} {look : Look} {p : Nat} {k : KOp R} {r : R}

theorem flatten_get {α : Type} {k : Nat} : ∀ {css : List (List α)} {e j : Nat} {c : List α} {v : α}, (∀ c ∈ css, c.length = k) → css[e]? = some c → c[j]? = some v → css.flatten[e * k + j]? = some v
  | c0 :: css, 0, j, c, v, h, he, hj => by
    simp at he; subst he
    have := (List.getElem?_eq_some_iff.1 hj).1
    rw [List.flatten_cons, Nat.zero_mul, Nat.zero_add, List.getElem?_append_left this]; exact hj
  | c0 :: css, e + 1, j, c, v, h, he, hj => by
    have h0 := h c0 (by simp)
    rw [List.flatten_cons, Nat.succ_mul, List.getElem?_append_right (by omega)]
    have := flatten_get (k := k) (css := css) (e := e) (j := j) (fun c hc => h c (by simp [hc])) (by simpa using he) hj
    rw [← this]; congr 1; omega
  | [], e, j, c, v, h, he, hj => by simp at he

theorem All2.lens {w : World} {I : Nat → Prop} {t : Ty} {xs : List t.D} {css : List (List Value)} (h : All2 (PR w I t) xs css) : ∀ c ∈ css, c.length = t.size :=
  All2.allr (p := fun c => c.length = t.size) (fun _ _ h => h.len) h

theorem getD_eq {α : Type} {xs : List α} {e : Nat} {d : α} (h : e < xs.length) : xs[e]? = some (xs.getD e d) := by
  simp [List.getD, List.getElem?_eq_getElem h]

theorem row_elem {w : World} {I : Nat → Prop} {t : Ty} {xs : List t.D} {css : List (List Value)} (h : All2 (PR w I t) xs css) {e : Nat} (he : e < xs.length) (d : t.D) :
    ∃ c, css[e]? = some c ∧ PR w I t (xs.getD e d) c ∧ ∀ j v, c[j]? = some v → css.flatten[e * t.size + j]? = some v := by
  obtain ⟨c, h1, h2⟩ := h.get e _ (getD_eq (d := d) he)
  exact ⟨c, h1, h2, fun j v hj => flatten_get h.lens h1 hj⟩

theorem run_loadE {t : Nat} {ti : TI} (hti : TIok P t ti) {w : World} {I : Nat → Prop} {ρ : Nat → Option Info} {es : List SV} {v : SV} {cs : List Value} {b o : Nat}
    (hc : ERs w I ρ es cs) (hcell : cellsAt w b o cs) (h : (ti.agg = true ∧ ∃ l, takeC es ti.size = some l ∧ v = .agg l) ∨ (ti.agg = false ∧ ∃ r, es = v :: r ∧ esize v = 1)) :
    ∃ x, (loadVar t ⟨b, o, none⟩).run P w = .ok x w ∧ FR w I ρ v x := by
  rcases loadE_fr hc h with ⟨ha, h2, h3⟩ | ⟨ha, x, r, rfl, _, h4⟩
  · refine ⟨_, (hti.run_loadVar (vs := cs.take ti.size) ?_ ?_).1 ha, h3⟩
    · intro j v hj
      rw [List.getElem?_take] at hj
      split at hj
      · exact hcell j v hj
      · cases hj
    · simp; omega
  · refine ⟨x, ?_, h4⟩
    have hcx := hcell 0 x rfl
    simp only [Nat.add_zero] at hcx
    simp [loadVar, hti.run_isAgg, ha, hcx]

theorem cells_drop {w : World} {b o : Nat} {cs : List Value} (h : cellsAt w b o cs) (n : Nat) : cellsAt w b (o + n) (cs.drop n) :=
  h.sub n fun j u hj => by rwa [List.getElem?_drop] at hj

theorem BR.box_inv {w : World} {I : Nat → Prop} {ρ : Nat → Option Info} {i : Nat} {es : List SV} {ety : Nat} (h : BR w I ρ i (.box es ety)) :
    ∃ x b arr fz, ρ i = some x ∧ x.blk = some b ∧ w.heap[b]? = some (.cells arr ety fz) ∧ nofrz arr.size fz ∧ ERs w I ρ es arr.toList ∧ cellsAt w b 0 arr.toList := by
  obtain ⟨x, b, arr, fz, h1, h2, h3, h4, h5⟩ := h
  exact ⟨x, b, arr, fz, h1, h2, h3, h4, h5, cellsAt_of_heap h3 fun j v hj => by simpa using hj⟩

def LoadAt (G : Nat) (H0 : Array Obj) (look : Look) (ti : TI) (a : SV) (v : SV) : Prop :=
  ∀ (w : World) (I : Nat → Prop) (ρ : Nat → Option Info) (x : Value), Real G H0 w I ρ look → FR w I ρ a x →
    ∃ es b o cs, x = .pointer (some ⟨b, o, none⟩) ∧ ERs w I ρ es cs ∧ cellsAt w b o cs ∧
      ((ti.agg = true ∧ ∃ l, takeC es ti.size = some l ∧ v = .agg l) ∨ (ti.agg = false ∧ ∃ r, es = v :: r ∧ esize v = 1))

theorem xload_inv (G : Nat) (H0 : Array Obj) {ti : TI} {a : SV} {kk : KOp R} (h : xload ti look a kk = some r) : ∃ v τ, kk v [] τ = some r ∧
    (∀ look' : Look, (∀ i, i ∈ τ → look' i = look i) → ∀ kk' : KOp R, xload ti look' a kk' = kk' v [] τ) ∧ LoadAt G H0 look ti a v := by
  unfold xload at h
  split at h
  case h_1 i c =>
    split at h
    case h_2 => cases h
    case h_1 es ety hl =>
    obtain ⟨es', v, hs, hk, hkk, hcase⟩ := loadE_some h
    refine ⟨v, [i], hk, fun look' hlk kk' => by simp [xload, hlk i (by simp), hl]; exact hkk fun v => kk' v [] [i], fun w I ρ x hr ha => ?_⟩
    have hb := hr.blk i
    rw [hl] at hb
    obtain ⟨y, b, arr, fz, h1, h2, h3, h4, h5, h6⟩ := hb.box_inv
    rw [FR] at ha
    obtain ⟨y', b', e1, e2, e3⟩ := ha
    rw [h1] at e1; cases e1; rw [h2] at e2; cases e2
    obtain ⟨h7, h8⟩ := h5.skip hs
    refine ⟨es', b, c, _, e3, h8, ?_, hcase⟩
    simpa using cells_drop h6 c
  case h_2 i e j =>
    split at h
    case h_2 => cases h
    case h_1 t xs ety gr hl =>
    obtain ⟨es', v, hs, hk, hkk, hcase⟩ := loadE_some h
    refine ⟨v, [i], hk, fun look' hlk kk' => by simp only [xload, hlk i (by simp), hl]; exact hkk fun v => kk' v [] [i], fun w I ρ x hr ha => ?_⟩
    have hb := hr.blk i
    rw [hl] at hb
    obtain ⟨y, h1, h2, h3, h4, h5, h6, h7⟩ := hb
    rw [FR] at ha
    obtain ⟨y', b', e1, e2, e3, e4⟩ := ha
    rw [h1] at e1; cases e1
    obtain ⟨arr, fz, pre, css, rest, g1, g2, g3, g4, g5, g6⟩ := h7 b' e2
    obtain ⟨c, c1, c2, c3⟩ := row_elem g4 (e := e) (by omega) t.dflt
    obtain ⟨h8, h9⟩ := (flat_ers (ρ := ρ) c2).skip hs
    have hcell : cellsAt w b' (y.off + e * t.size) c := by
      refine cellsAt_of_heap g1 fun j v hj => ?_
      have := c3 j v hj
      rw [g5, List.getElem?_append_right (by omega), g6, Nat.add_assoc, Nat.add_sub_cancel_left, List.getElem?_append_left (List.getElem?_eq_some_iff.1 this).1]; exact this
    refine ⟨es', b', y.off + e * t.size + j, _, by rw [e3, h3], h9, cells_drop hcell j, hcase⟩
  case h_3 i c n m e j =>
    split at h
    case h_2 => cases h
    case h_1 es ety hl =>
    split at h
    case h_2 => cases h
    case h_1 n' at_ xs rs hsk =>
    split at h
    case isFalse => cases h
    case isTrue hnm =>
    obtain ⟨es', v, hs, hk, hkk, hcase⟩ := loadE_some h
    refine ⟨v, [i], hk, fun look' hlk kk' => by simp only [xload, hlk i (by simp), hl, hsk, hnm, and_self, if_true]; exact hkk fun v => kk' v [] [i], fun w I ρ x hr ha => ?_⟩
    have hb := hr.blk i
    rw [hl] at hb
    obtain ⟨y, b, arr, fz, h1, h2, h3, h4, h5, h6⟩ := hb.box_inv
    rw [FR] at ha
    obtain ⟨y', b', e1, e2, e3, e4⟩ := ha
    rw [h1] at e1; cases e1; rw [h2] at e2; cases e2
    obtain ⟨h7, h8⟩ := h5.skip hsk
    obtain ⟨l, r', g1, g2, g3⟩ := ERs.cons.1 h8
    have g2' := CR.pv.1 g2
    rw [PR] at g2'
    obtain ⟨hn, css, f1, rfl⟩ := g2'
    obtain ⟨ce, c1, c2, c3⟩ := row_elem f1 (e := e) (by omega) at_.dflt
    obtain ⟨h9, h10⟩ := (flat_ers (ρ := ρ) c2).skip hs
    have hcell : cellsAt w b (c + e * at_.size) ce := by
      have := cells_drop h6 c
      rw [g1, Nat.zero_add] at this
      refine this.sub (e * at_.size) fun j v hj => ?_
      have := c3 j v hj
      rw [List.getElem?_append_left (List.getElem?_eq_some_iff.1 this).1]; exact this
    refine ⟨es', b, c + e * at_.size + j, _, by rw [e3, hnm.2], h10, cells_drop hcell j, hcase⟩
  case h_4 t o' =>
    replace h := deref_some h
    obtain ⟨y, rfl, h⟩ := h
    obtain ⟨es', v, hs, hk, hkk, hcase⟩ := loadE_some h
    cases hs
    refine ⟨v, [], hk, fun look' hlk kk' => by simp only [xload, deref]; exact hkk fun v => kk' v [] [], fun w I ρ x hr ha => ?_⟩
    rw [FR, PR] at ha
    obtain ⟨b, c, cs, hI, e, h1, h2⟩ := ha
    simp at e
    exact ⟨_, b, c, cs, e, flat_ers h1, h2, hcase⟩
  case h_5 => cases h

theorem LoadAt.run {t : Nat} {ti : TI} (hti : TIok P t ti) {a v : SV} (h : LoadAt G H0 look ti a v) {w : World} {I : Nat → Prop} {ρ : Nat → Option Info} {x : Value}
    (hr : Real G H0 w I ρ look) (ha : FR w I ρ a x) : ∃ b o y, x = .pointer (some ⟨b, o, none⟩) ∧ (loadVar t ⟨b, o, none⟩).run P w = .ok y w ∧ FR w I ρ v y := by
  obtain ⟨es, b, o, cs, e, h1, h2, h3⟩ := h w I ρ x hr ha
  obtain ⟨y, h4, h5⟩ := run_loadE hti h1 h2 h3
  exact ⟨b, o, y, e, h4, h5⟩

theorem load_ok (hE : TabOk P E) {t : Nat} {a : Operand} (h : xop E (.load t a) σ look p k = some r) : OpOk P G H0 E (.load t a) σ look p k r := by
  simp only [xop] at h
  split at h
  case h_2 => cases h
  case h_1 ti hti =>
  obtain ⟨v, τ, hk, hsame, hat⟩ := xload_inv G H0 h
  refine ⟨v, [], τ, hk, fun σ' look' hσ hlk k' => ?_, Sound.calm fun o ac w I ρ ho hre hr => ?_⟩
  · simp only [xop, hti, hσ a (by simp [Op.operands])]
    exact hsame look' hlk k'
  · obtain ⟨b, o', y, e, h4, h5⟩ := hat.run (hE.tab _ _ hti) hre (hr a)
    exact ⟨y, by simp [execOp, ho, e, Instr.loadAt, Instr.sureAddr, h4], h5⟩

theorem upd_applyL (look : Look) (i : Nat) (B : Blk) : applyL look [(i, B)] = upd look i B := rfl

theorem alloc_old (w : World) (o : Obj) {c : Nat} (h : c < w.heap.size) : (w.alloc o).heap[c]? = w.heap[c]? := by
  show (w.heap.push o)[c]? = _
  rw [Array.getElem?_push, if_neg (by omega)]

theorem alloc_new (w : World) (o : Obj) : (w.alloc o).heap[w.heap.size]? = some o := by
  show (w.heap.push o)[w.heap.size]? = _
  rw [Array.getElem?_push, if_pos rfl]

theorem birth_box {w : World} {I : Nat → Prop} {ρ : Nat → Option Info} (hre : Real G H0 w I ρ look) {es : List SV} {cs : Array Value} {ety : Nat} (hc : ERs w I ρ es cs.toList) (hf : Fresh ρ look p [(p, .box es ety)]) :
    OpPost G H0 w I ρ look (.ptr p 0) [(p, .box es ety)] (.pointer (some ⟨w.heap.size, 0, none⟩)) (w.alloc (.cells cs ety)) I (upd ρ p (some ⟨some w.heap.size, 0, 0, 0, 0⟩)) := by
  have hp : ρ p = none := (hf p _ (List.mem_singleton.2 rfl) (Nat.le_refl _)).2
  have hpost : Post G H0 w I ρ look (w.alloc (.cells cs ety)) I (upd ρ p (some ⟨some w.heap.size, 0, 0, 0, 0⟩)) (applyL look [(p, .box es ety)]) := by
    refine hre.birth hp (fun j hj => by rw [upd_applyL, upd_other _ _ hj]) (by simp) (fun c hc => ?_) (fun b hb => ?_) ?_ rfl rfl rfl
    · exact alloc_old _ _ hc
    · simp at hb; subst hb; simp
    · rw [upd_applyL, upd_same]
      refine ⟨_, w.heap.size, cs, (0, 0), upd_same _ _ _, rfl, alloc_new _ _, fun o _ h => by simp at h, ?_⟩
      refine hc.mono (fun b hb => ⟨hb, ?_⟩) (fun i x hi => ?_)
      · exact alloc_old _ _ (hre.imm b hb)
      · rw [upd_other]; exact hi
        intro e; subst e; rw [hp] at hi; cases hi
  refine ⟨hpost, ?_, fun i y hi => ?_⟩
  · rw [FR]; exact ⟨_, _, upd_same _ _ _, rfl, rfl⟩
  · by_cases e : i = p
    · subst e; exact .inr ⟨_, List.mem_singleton.2 rfl⟩
    · rw [upd_other _ _ e] at hi; exact .inl hi

theorem alloc_ok (hE : TabOk P E) {t : Nat} (h : xop E (.alloc t) σ look p k = some r) : OpOk P G H0 E (.alloc t) σ look p k r := by
  simp only [xop] at h
  split at h
  case h_2 => cases h
  case h_1 ti hti =>
  refine ⟨_, _, _, h, fun σ' look' hσ hlk k' => by simp [xop, hti], Sound.of fun o ac w I ρ ho hre hr hf => ?_⟩
  obtain ⟨z, h1, h2⟩ := (hE.tab _ _ hti).run_zero w
  refine ⟨_, _, _, _, .inl ?_, birth_box (cs := z.cells) hre (h2 _ _ _) hf⟩
  simp [execOp, ho, Instr.alloc, h1, newVar, newRow]

theorem box_ok (hE : TabOk P E) {t : Nat} {x : Operand} (h : xop E (.box t x) σ look p k = some r) : OpOk P G H0 E (.box t x) σ look p k r := by
  simp only [xop] at h
  split at h
  case h_2 => cases h
  case h_1 ti hti =>
  split at h
  case h_2 => cases h
  case h_1 es hes =>
  split at h
  case isFalse => cases h
  case isTrue hsz =>
  refine ⟨_, _, _, h, fun σ' look' hσ hlk k' => by simp [xop, hti, hσ x (by simp [Op.operands]), hes, hsz], Sound.of fun o ac w I ρ ho hre hr hf => ?_⟩
  refine ⟨_, _, _, _, .inl ?_, birth_box (cs := (ac.eval x).cells) hre (entsOf_ers (hr x) hes) hf⟩
  simp [execOp, ho, Instr.box, newVar, newRow]

theorem write_box {w w' : World} {I : Nat → Prop} {ρ : Nat → Option Info} (hre : Real G H0 w I ρ look) {i : Nat} {y : Info} {b ety : Nat} {es es' : List SV} {arr' : Array Value} {fz : Nat × Nat}
    (hl : look i = .box es ety) (h1 : ρ i = some y) (h2 : y.blk = some b) (ho : OnlyAt b w w') (hh : w'.heap[b]? = some (.cells arr' ety fz)) (hz : nofrz arr'.size fz)
    (he : ERs w I ρ es' arr'.toList) : Post G H0 w I ρ look w' I ρ (upd look i (.box es' ety)) := by
  have hob := hre.own b ⟨i, y, by rw [hl]; simp, h1, h2⟩
  refine hre.write (i := i) (by rw [hl]; simp) h1 h2 (fun j hj => upd_other _ _ hj) ho.size ho.other ?_ ho.os ho.tape ho.output
  rw [upd_same]
  refine ⟨y, b, arr', fz, h1, h2, hh, hz, he.mono (fun c hc => ⟨hc, ho.other c fun e => hob.2.1 (e ▸ hc)⟩) (Ext.refl _)⟩

theorem mapfst_kills (d : List Nat) : kills d = d.map fun i => (i, Blk.dead) := rfl

theorem applyL_append (look : Look) (d d' : Delta) : applyL look (d ++ d') = applyL (applyL look d) d' := by simp [applyL]

theorem applyL_kills (d : List Nat) : ∀ (look : Look) (i : Nat), applyL look (kills d) i = if i ∈ d then .dead else look i := by
  induction d with
  | nil => intro look i; simp [kills, applyL]
  | cons a d ih =>
    intro look i
    have : applyL look (kills (a :: d)) = applyL (upd look a .dead) (kills d) := rfl
    rw [this, ih]
    by_cases h : i ∈ d
    · simp [h]
    · by_cases e : i = a
      · subst e; simp [h, upd]
      · simp [h, e, upd]

def Pubd (ρ : Nat → Option Info) (I I' : Nat → Prop) (d : List Nat) : Prop := (∀ b, I b → I' b) ∧ ∀ i, i ∈ d → ∀ x b, ρ i = some x → x.blk = some b → I' b

theorem Pubd.left {ρ : Nat → Option Info} {I I' : Nat → Prop} {d d' : List Nat} (h : Pubd ρ I I' (d ++ d')) : Pubd ρ I I' d := ⟨h.1, fun i hi => h.2 i (by simp [hi])⟩
theorem Pubd.right {ρ : Nat → Option Info} {I I' : Nat → Prop} {d d' : List Nat} (h : Pubd ρ I I' (d ++ d')) : Pubd ρ I I' d' := ⟨h.1, fun i hi => h.2 i (by simp [hi])⟩
theorem Pubd.stay {w : World} {ρ : Nat → Option Info} {I I' : Nat → Prop} {d : List Nat} (h : Pubd ρ I I' d) : Stay w I w I' := fun b hb => ⟨h.1 b hb, rfl⟩

def PubOk (G : Nat) (H0 : Array Obj) (look : Look) (v v' : SV) (d : List Nat) : Prop :=
  (∀ i, i ∈ d → look i ≠ .dead) ∧ ∀ (w : World) (I I' : Nat → Prop) (ρ : Nat → Option Info) (l : List Value), Real G H0 w I ρ look → Pubd ρ I I' d → CR w I ρ v l → CR w I' ρ v' l

theorem pubL_ok {f : SV → Option (SV × List Nat)} (hf : ∀ v v' d, f v = some (v', d) → PubOk G H0 look v v' d) : ∀ {es es' : List SV} {d : List Nat}, pubL f es = some (es', d) →
    (∀ i, i ∈ d → look i ≠ .dead) ∧ ∀ (w : World) (I I' : Nat → Prop) (ρ : Nat → Option Info) (l : List Value), Real G H0 w I ρ look → Pubd ρ I I' d → ERs w I ρ es l → ERs w I' ρ es' l
  | [], es', d, h => by
    simp [pubL] at h; obtain ⟨rfl, rfl⟩ := h
    exact ⟨by simp, fun w I I' ρ l _ _ h => by rw [ERs.nil] at h ⊢; exact h⟩
  | e :: es, es', d, h => by
    rw [pubL] at h
    split at h
    case h_2 => cases h
    case h_1 e' d1 he =>
    split at h
    case h_2 => cases h
    case h_1 es1 d2 hes =>
    simp at h; obtain ⟨rfl, rfl⟩ := h
    obtain ⟨h1, h2⟩ := hf _ _ _ he
    obtain ⟨h3, h4⟩ := pubL_ok hf hes
    refine ⟨fun i hi => ?_, fun w I I' ρ l hr hp h => ?_⟩
    · rcases List.mem_append.1 hi with hi | hi
      · exact h1 i hi
      · exact h3 i hi
    · obtain ⟨l1, l2, rfl, h5, h6⟩ := ERs.cons.1 h
      exact ERs.cons.2 ⟨l1, l2, rfl, h2 w I I' ρ l1 hr hp.left h5, h4 w I I' ρ l2 hr hp.right h6⟩

theorem row_pr {w : World} {I I' : Nat → Prop} {ρ : Nat → Option Info} {i : Nat} {t : Ty} {xs : List t.D} {ety : Nat} {gr : Bool} {x : Info} (hb : BR w I ρ i (.row t xs ety gr)) (hx : ρ i = some x)
    (hs : Stay w I w I') (hI : ∀ b, x.blk = some b → I' b) {e n : Nat} (hle : e + n ≤ x.len) {v : Value} (hv : slV x.blk x.off e n x.esz x.cap v) : PR w I' (.sl t) ((xs.drop e).take n) [v] := by
  obtain ⟨x', h1, h2, h3, h4, h5, h6, h7⟩ := hb
  rw [hx] at h1; cases h1
  obtain ⟨q, rfl, hq⟩ := hv
  have hlen : ((xs.drop e).take n).length = n := by simp; omega
  rw [PR]
  by_cases hn : n = 0
  · subst hn; exact .inl ⟨by simp, _, _, rfl⟩
  · obtain ⟨b, hb, rfl⟩ := hq (by omega)
    obtain ⟨arr, fz, pre, css, rest, a1, a2, a3, a4, a5, a6⟩ := h7 b hb
    refine .inr ⟨b, x.off + e * x.esz, x.cap - e, (css.drop e).take n, hI b hb, by rw [hlen], by omega, ((a4.mono fun _ _ h => h.mono hs).drop e).take n, ?_⟩
    refine cellsAt_of_heap a1 fun j v hj => ?_
    rw [a5, h3]
    have hcl : css.length = xs.length := a4.len.symm
    have key : ∀ (css : List (List Value)) (e n : Nat), (∀ c ∈ css, c.length = t.size) → ∀ j v, ((css.drop e).take n).flatten[j]? = some v → css.flatten[e * t.size + j]? = some v := by
      intro css e n hc j v hj
      have e1 : css = css.take e ++ ((css.drop e).take n ++ (css.drop e).drop n) := by rw [List.take_append_drop, List.take_append_drop]
      by_cases hel : e ≤ css.length
      · have : (css.take e).flatten.length = e * t.size := by
          rw [flatten_len_const (fun c hc' => hc c (List.mem_of_mem_take hc'))]
          simp [Nat.min_eq_left hel]
        rw [e1, List.flatten_append, List.flatten_append, List.getElem?_append_right (by omega), this, Nat.add_sub_cancel_left,
          List.getElem?_append_left (List.getElem?_eq_some_iff.1 hj).1]
        exact hj
      · rw [List.drop_eq_nil_of_le (by omega)] at hj; simp at hj
    have := key css e n a4.lens j v hj
    rw [List.getElem?_append_right (by omega), a6, Nat.add_assoc, Nat.add_sub_cancel_left, List.getElem?_append_left (List.getElem?_eq_some_iff.1 this).1]
    exact this

theorem pub1_ok {tyOf : Nat → Option Ty} : ∀ (n : Nat) (v v' : SV) (d : List Nat), pub1 tyOf look n v = some (v', d) → PubOk G H0 look v v' d
  | 0, v, v', d, h => by
    simp [pub1] at h; obtain ⟨rfl, rfl⟩ := h
    exact ⟨by simp, fun w I I' ρ l _ hp h => h.mono hp.stay (Ext.refl _)⟩
  | n + 1, v, v', d, h => by
    rw [pub1, pubStep.eq_def] at h
    split at h
    case h_1 i =>
      split at h
      case h_2 => cases h
      case h_1 t xs ety gr hl =>
      simp at h; obtain ⟨rfl, rfl⟩ := h
      refine ⟨by simp [hl], fun w I I' ρ l hr hp h => ?_⟩
      obtain ⟨y, rfl, _, h2⟩ := (CR.ref rfl).1 h
      rw [FR] at h2; obtain ⟨x, h3, h4⟩ := h2
      have hb := hr.blk i; rw [hl] at hb
      have hb' := hb
      obtain ⟨x', g1, g2, _⟩ := hb'
      rw [h3] at g1; cases g1
      have := row_pr hb h3 hp.stay (fun b hb => hp.2 i (by simp) x b h3 hb) (e := 0) (n := x.len) (by omega) h4
      rw [List.drop_zero, List.take_of_length_le (by omega)] at this
      exact CR.pv.2 this
    case h_2 i e m =>
      split at h
      case h_2 => cases h
      case h_1 t xs ety gr hl =>
      simp at h; obtain ⟨rfl, rfl⟩ := h
      refine ⟨by simp [hl], fun w I I' ρ l hr hp h => ?_⟩
      obtain ⟨y, rfl, _, h2⟩ := (CR.ref rfl).1 h
      rw [FR] at h2; obtain ⟨x, h3, h4, h5⟩ := h2
      have hb := hr.blk i; rw [hl] at hb
      exact CR.pv.2 (row_pr hb h3 hp.stay (fun b hb => hp.2 i (by simp) x b h3 hb) h4 h5)
    case h_3 i =>
      split at h
      case h_2 => cases h
      case h_1 es ety hl =>
      split at h
      case h_2 => cases h
      case h_1 t ht =>
      split at h
      case h_2 => cases h
      case h_1 es' d' hes =>
      split at h
      case h_2 => cases h
      case h_1 x hx =>
      simp at h; obtain ⟨rfl, rfl⟩ := h
      obtain ⟨h3, h4⟩ := pubL_ok (fun v v' d h => pub1_ok n v v' d h) hes
      refine ⟨fun j hj => ?_, fun w I I' ρ l hr hp h => ?_⟩
      · rcases List.mem_cons.1 hj with rfl | hj
        · rw [hl]; simp
        · exact h3 j hj
      · obtain ⟨y, rfl, _, h2⟩ := (CR.ref rfl).1 h
        rw [FR] at h2; obtain ⟨z, b, e1, e2, rfl⟩ := h2
        have hb := hr.blk i; rw [hl] at hb
        obtain ⟨z', b', arr, fz, g1, g2, g3, g4, g5, g6⟩ := hb.box_inv
        rw [e1] at g1; cases g1; rw [e2] at g2; cases g2
        have h5 := h4 w I I' ρ _ hr (Pubd.right (d := [i]) hp) g5
        have h6 := whole_pr hx h5
        refine CR.pv.2 ?_
        rw [PR]
        exact ⟨b, 0, _, hp.2 i (by simp) z b e1 e2, rfl, h6, g6⟩
    case h_4 =>
      simp at h; obtain ⟨rfl, rfl⟩ := h
      exact ⟨by simp, fun w I I' ρ l _ hp h => h.mono hp.stay (Ext.refl _)⟩

theorem pubs_ok {tyOf : Nat → Option Ty} {es es' : List SV} {d : List Nat} (h : pubs tyOf look es = some (es', d)) :
    (∀ i, i ∈ d → look i ≠ .dead) ∧ ∀ (w : World) (I I' : Nat → Prop) (ρ : Nat → Option Info) (l : List Value), Real G H0 w I ρ look → Pubd ρ I I' d → ERs w I ρ es l → ERs w I' ρ es' l :=
  pubL_ok (fun v v' d h => pub1_ok 6 v v' d h) h

theorem pubL_loc {look' : Look} {f f' : SV → Option (SV × List Nat)} (hf : ∀ v v' d, f v = some (v', d) → (∀ q, q ∈ d → look' q = look q) → f' v = some (v', d)) :
    ∀ {es es' : List SV} {d : List Nat}, pubL f es = some (es', d) → (∀ q, q ∈ d → look' q = look q) → pubL f' es = some (es', d)
  | [], es', d, h, _ => by simpa [pubL] using h
  | e :: es, es', d, h, hd => by
    rw [pubL] at h ⊢
    split at h
    case h_2 => cases h
    case h_1 e' d1 he =>
    split at h
    case h_2 => cases h
    case h_1 es1 d2 hes =>
    simp at h; obtain ⟨rfl, rfl⟩ := h
    rw [hf _ _ _ he fun q hq => hd q (by simp [hq])]
    simp only
    rw [pubL_loc hf hes fun q hq => hd q (by simp [hq])]

theorem pub1_loc {tyOf : Nat → Option Ty} {look' : Look} : ∀ (n : Nat) (v v' : SV) (d : List Nat), pub1 tyOf look n v = some (v', d) → (∀ q, q ∈ d → look' q = look q) → pub1 tyOf look' n v = some (v', d)
  | 0, v, v', d, h, _ => by simpa [pub1] using h
  | n + 1, v, v', d, h, hd => by
    rw [pub1, pubStep.eq_def] at h ⊢
    split at h
    case h_1 i =>
      split at h
      case h_2 => cases h
      case h_1 t xs ety gr hl =>
      simp at h; obtain ⟨rfl, rfl⟩ := h
      simp [hd i (by simp), hl]
    case h_2 i e m =>
      split at h
      case h_2 => cases h
      case h_1 t xs ety gr hl =>
      simp at h; obtain ⟨rfl, rfl⟩ := h
      simp [hd i (by simp), hl]
    case h_3 i =>
      split at h
      case h_2 => cases h
      case h_1 es ety hl =>
      split at h
      case h_2 => cases h
      case h_1 t ht =>
      split at h
      case h_2 => cases h
      case h_1 es' d' hes =>
      split at h
      case h_2 => cases h
      case h_1 x hx =>
      simp at h; obtain ⟨rfl, rfl⟩ := h
      simp only [hd i (by simp), hl, ht, pubL_loc (fun v v' d h hd => pub1_loc n v v' d h hd) hes fun q hq => hd q (by simp [hq]), hx]
    case h_4 x h1 h2 h3 =>
      simp at h; obtain ⟨rfl, rfl⟩ := h
      rfl

theorem pubs_loc {tyOf : Nat → Option Ty} {look' : Look} {es es' : List SV} {d : List Nat} (h : pubs tyOf look es = some (es', d)) (hd : ∀ q, q ∈ d → look' q = look q) : pubs tyOf look' es = some (es', d) :=
  pubL_loc (fun v v' d h hd => pub1_loc 6 v v' d h hd) h hd

theorem publish_step {w : World} {I : Nat → Prop} {ρ : Nat → Option Info} (hre : Real G H0 w I ρ look) {d : List Nat} (hd : ∀ i, i ∈ d → look i ≠ .dead) :
    ∃ I', Pubd ρ I I' d ∧ Post G H0 w I ρ look w I' ρ (applyL look (kills d)) := by
  refine ⟨fun b => I b ∨ ∃ i x, i ∈ d ∧ ρ i = some x ∧ x.blk = some b, ⟨fun b hb => .inl hb, fun i hi x b h1 h2 => .inr ⟨i, x, hi, h1, h2⟩⟩, hre.publish (fun i => ?_) (fun b hb => .inl hb) fun b hb => ?_⟩
  · rw [applyL_kills]; split
    · exact .inr rfl
    · exact .inl rfl
  · rcases hb with hb | ⟨i, x, h1, h2, h3⟩
    · exact .inl hb
    · exact .inr ⟨i, x, hd i h1, by rw [applyL_kills, if_pos h1], h2, h3⟩
end
end Go.AM
set_option linter.unusedSimpArgs false
set_option linter.unusedVariables false
namespace Go.AM
section
variable {R : Type} {P : Program} {G : Nat} {H0 : Array Obj} {E : Env R} {σ : Operand → SV} {look : Look} {p : Nat} {k : KOp R} {r : R}

theorem splice_mid {α : Type} (pre c rest vs : List α) (j : Nat) (h : j + vs.length ≤ c.length) :
    (pre ++ (c ++ rest)).take (pre.length + j) ++ vs ++ (pre ++ (c ++ rest)).drop (pre.length + j + vs.length) = pre ++ ((c.take j ++ vs ++ c.drop (j + vs.length)) ++ rest) := by
  have e1 : (pre ++ (c ++ rest)).take (pre.length + j) = pre ++ c.take j := by
    rw [List.take_append, List.take_of_length_le (by omega), Nat.add_sub_cancel_left, List.take_append_of_le_length (by omega)]
  have e2 : (pre ++ (c ++ rest)).drop (pre.length + j + vs.length) = c.drop (j + vs.length) ++ rest := by
    rw [List.drop_append, List.drop_eq_nil_of_le (by omega), List.nil_append, show pre.length + j + vs.length - pre.length = j + vs.length by omega, List.drop_append_of_le_length h]
  rw [e1, e2]; simp

theorem flatten_set_mid {α : Type} {k : Nat} (pre rest vs : List α) (j : Nat) : ∀ {css : List (List α)} {e : Nat} {c : List α}, (∀ c ∈ css, c.length = k) → css[e]? = some c → j + vs.length ≤ k →
    (pre ++ (css.flatten ++ rest)).take (pre.length + (e * k + j)) ++ vs ++ (pre ++ (css.flatten ++ rest)).drop (pre.length + (e * k + j) + vs.length) =
      pre ++ ((css.set e (c.take j ++ vs ++ c.drop (j + vs.length))).flatten ++ rest)
  | c0 :: css, 0, c, h, he, hj => by
    simp at he; subst he
    have h0 := h c0 (by simp)
    simp only [Nat.zero_mul, Nat.zero_add, List.flatten_cons, List.set_cons_zero, List.append_assoc c0]
    rw [splice_mid pre c0 (css.flatten ++ rest) vs j (by omega)]
    simp
  | c0 :: css, e + 1, c, h, he, hj => by
    have h0 := h c0 (by simp)
    have ih := flatten_set_mid (k := k) (pre ++ c0) rest vs j (css := css) (e := e) (c := c) (fun c hc => h c (by simp [hc])) (by simpa using he) hj
    simp only [List.flatten_cons, List.set_cons_succ, List.append_assoc] at ih ⊢
    rw [← ih]
    simp only [List.length_append, h0]
    have e1 : pre.length + ((e + 1) * k + j) = pre.length + k + (e * k + j) := by rw [Nat.succ_mul]; omega
    rw [e1]
  | [], e, c, _, he, _ => by simp at he

theorem store_upd (look : Look) (d : List Nat) (i : Nat) (B : Blk) : applyL look (kills d ++ [(i, B)]) = upd (applyL look (kills d)) i B := by
  rw [applyL_append]; rfl

theorem store_ok (hE : TabOk P E) {t : Nat} {a v : Operand} (h : xop E (.store t a v) σ look p k = some r) : OpOk P G H0 E (.store t a v) σ look p k r := by
  simp only [xop] at h
  split at h
  case h_2 => cases h
  case h_1 ti hti =>
  unfold xstore at h
  split at h
  case h_1 => cases h
  case h_2 new hnew =>
  split at h
  case isFalse => cases h
  case isTrue hsz =>
  have ha : ∀ σ' : Operand → SV, (∀ x, x ∈ (Op.store t a v).operands.toList → σ' x = σ x) → σ' a = σ a ∧ σ' v = σ v := fun σ' hσ => ⟨hσ a (by simp [Op.operands]), hσ v (by simp [Op.operands])⟩
  have hcells : ∀ {w : World} {I : Nat → Prop} {ρ : Nat → Option Info} {x : Value}, FR w I ρ (σ v) x → ERs w I ρ new x.cells.toList ∧ x.cells.size = ti.size := fun hx => by
    have h1 := entsOf_ers hx hnew
    exact ⟨h1, by have := h1.len; simpa [hsz] using this⟩
  split at h
  case h_1 i c hai =>
    split at h
    case h_2 => cases h
    case h_1 es ety hl =>
    split at h
    case h_2 => cases h
    case h_1 es' hes =>
    refine ⟨_, _, _, h, fun σ' look' hσ hlk k' => ?_, Sound.of fun o ac w I ρ ho hre hr hf => ?_⟩
    · obtain ⟨e1, e2⟩ := ha σ' hσ
      simp [xop, xstore, hti, e1, e2, hai, hnew, hsz, hlk i (by simp), hl, hes]
    · obtain ⟨hn1, hn2⟩ := hcells (hr v)
      have hb := hre.blk i; rw [hl] at hb
      obtain ⟨y, b, arr, fz, h1, h2, h3, h4, h5, h6⟩ := hb.box_inv
      have hra := hr a; rw [hai, FR] at hra
      obtain ⟨y', b', e1, e2, e3⟩ := hra
      rw [h1] at e1; cases e1; rw [h2] at e2; cases e2
      obtain ⟨h7, h8⟩ := h5.splice hn1 hes
      simp only [Array.length_toList] at h7 h8
      obtain ⟨w', arr', r1, r2, r3, r4⟩ := (hE.tab _ _ hti).run_storeVar (o := c) h3 h4 hn2 (by omega) (fun u hu => hn1.oneCell u hu)
      have hsz' : arr'.size = arr.size := by
        have := congrArg List.length r4
        simp only [Array.length_toList, List.length_append, List.length_take, List.length_drop] at this; omega
      refine ⟨undef, w', I, ρ, .inr ⟨?_, rfl⟩, write_box hre hl h1 h2 r2 r3 (by rw [hsz']; exact h4) ?_, by rw [FR], fun i y h => .inl h⟩
      · simp [execOp, ho, e3, Instr.storeAt, Instr.sureAddr, r1]
      · rw [r4, ← hn2]; exact h8
  case h_2 i e j hai =>
    split at h
    case h_2 => cases h
    case h_1 t' xs ety gr hl =>
    split at h
    case h_2 => cases h
    case h_1 new' d hpub =>
    split at h
    case isTrue => cases h
    case isFalse hid =>
    split at h
    case h_2 => cases h
    case h_1 es' hes =>
    split at h
    case h_2 => cases h
    case h_1 x' hx' =>
    have hid' : i ∉ d := by simpa using hid
    obtain ⟨hd, hpok⟩ := pubs_ok (G := G) (H0 := H0) hpub
    have hlocp : ∀ look' : Look, (∀ q, q ∈ i :: d → look' q = look q) → pubs E.tyOf look' new = some (new', d) := fun look' hlk => pubs_loc hpub fun q hq => hlk q (by simp [hq])
    refine ⟨_, _, _, h, fun σ' look' hσ hlk k' => ?_, Sound.of fun o ac w I ρ ho hre hr hf => ?_⟩
    · obtain ⟨e1, e2⟩ := ha σ' hσ
      simp only [xop, xstore, hti, e1, e2, hai, hnew, hsz, if_true, hlk i (by simp), hl, hes, hlocp look' hlk, hx', hid, Bool.false_eq_true, if_false]
    · obtain ⟨hn1, hn2⟩ := hcells (hr v)
      obtain ⟨I', hp, hpost⟩ := publish_step hre hd
      have hn1' := hpok w I I' ρ _ hre hp hn1
      have hre' := hpost.real
      have hl' : applyL look (kills d) i = .row t' xs ety gr := by rw [applyL_kills, if_neg hid', hl]
      have hb := hre'.blk i; rw [hl'] at hb
      obtain ⟨y, h1, h2, h3, h4, h5, h6, h7⟩ := hb
      have hra := hr a; rw [hai, FR] at hra
      obtain ⟨y', b, e1, e2, e3, e4⟩ := hra
      rw [h1] at e1; cases e1
      obtain ⟨arr, fz, pre, css, rest, g1, g2, g3, g4, g5, g6⟩ := h7 b e2
      obtain ⟨c, c1, c2, c3⟩ := row_elem g4 (e := e) (by omega) t'.dflt
      obtain ⟨h8, h9⟩ := (flat_ers (ρ := ρ) c2).splice hn1' hes
      have hcl := c2.len
      have hel : e < css.length := (List.getElem?_eq_some_iff.1 c1).1
      have hflat : css.flatten.length = css.length * t'.size := flatten_len_const g4.lens
      have hin : e * t'.size + t'.size ≤ css.length * t'.size := by
        have := Nat.mul_le_mul_right t'.size (Nat.succ_le_of_lt hel)
        rwa [Nat.succ_mul] at this
      have harr : arr.toList.length = y.off + (css.flatten.length + rest.length) := by rw [g5]; simp [g6]
      simp only [Array.length_toList] at harr h8 h9
      obtain ⟨w', arr', r1, r2, r3, r4⟩ := (hE.tab _ _ hti).run_storeVar (o := y.off + (e * t'.size + j)) g1 g2 hn2 (by omega) (fun u hu => hn1.oneCell u hu)
      have hsz' : arr'.size = arr.size := by
        have := congrArg List.length r4
        simp only [Array.length_toList, List.length_append, List.length_take, List.length_drop] at this; omega
      have hlive : applyL look (kills d) i ≠ .dead := by rw [hl']; simp
      have hob := hre'.own b ⟨i, y, hlive, h1, e2⟩
      have hst : Stay w I' w' I' := fun q hq => ⟨hq, r2.other q fun e => hob.2.1 (e ▸ hq)⟩
      have hpost2 : Post G H0 w I' ρ (applyL look (kills d)) w' I' ρ (applyL look (kills d ++ [(i, .row t' (xs.set e x') ety gr)])) := by
        refine hre'.write (i := i) hlive h1 e2 (fun q hq => by rw [store_upd, upd_other _ _ hq]) r2.size r2.other ?_ r2.os r2.tape r2.output
        rw [store_upd, upd_same]
        refine ⟨y, h1, by simpa using h2, h3, by simpa using h4, by simpa using h5, h6, fun b' hb' => ?_⟩
        rw [e2] at hb'; cases hb'
        refine ⟨arr', fz, pre, css.set e (c.take j ++ (ac.eval v).cells.toList ++ c.drop (j + (ac.eval v).cells.toList.length)), rest, r3, by rw [hsz']; exact g2, by rw [hsz']; exact g3, ?_, ?_, g6⟩
        · refine All2.set e (g4.mono fun _ _ h => h.mono hst) ?_
          exact (whole_pr hx' (by simpa using h9)).mono hst
        · have := flatten_set_mid (k := t'.size) pre rest (ac.eval v).cells.toList j (css := css) (e := e) (c := c) g4.lens c1 (by simp; omega)
          rw [← this, r4, g5, ← hn2, g6]
          simp
      refine ⟨undef, w', I', ρ, .inr ⟨?_, rfl⟩, hpost.trans hpost2, by rw [FR], fun i y h => .inl h⟩
      rw [h3, Nat.add_assoc] at e3
      simp [execOp, ho, e3, Instr.storeAt, Instr.sureAddr, r1]
  case h_3 i c n m e j hai =>
    split at h
    case h_2 => cases h
    case h_1 es ety hl =>
    split at h
    case h_2 => cases h
    case h_1 n' at_ xs rs hsk =>
    split at h
    case isFalse => cases h
    case isTrue hnm =>
    split at h
    case h_2 => cases h
    case h_1 es1 hes1 =>
    split at h
    case h_2 => cases h
    case h_1 x' hx' =>
    split at h
    case h_2 => cases h
    case h_1 es' hes =>
    refine ⟨_, _, _, h, fun σ' look' hσ hlk k' => ?_, Sound.of fun o ac w I ρ ho hre hr hf => ?_⟩
    · obtain ⟨e1, e2⟩ := ha σ' hσ
      simp only [xop, xstore, hti, e1, e2, hai, hnew, hsz, if_true, hlk i (by simp), hl, hes, hsk, hnm, and_self, hes1, hx']
    · obtain ⟨hn1, hn2⟩ := hcells (hr v)
      have hb := hre.blk i; rw [hl] at hb
      obtain ⟨y, b, arr, fz, h1, h2, h3, h4, h5, h6⟩ := hb.box_inv
      have hra := hr a; rw [hai, FR] at hra
      obtain ⟨y', b', e1, e2, e3, e4⟩ := hra
      rw [h1] at e1; cases e1; rw [h2] at e2; cases e2
      obtain ⟨h7, h8⟩ := h5.skip hsk
      obtain ⟨l, r', g1, g2, g3⟩ := ERs.cons.1 h8
      have g2' := CR.pv.1 g2
      rw [PR] at g2'
      obtain ⟨hn, css, f1, rfl⟩ := g2'
      obtain ⟨ce, c1, c2, c3⟩ := row_elem f1 (e := e) (by omega) at_.dflt
      obtain ⟨h9, h10⟩ := (flat_ers (ρ := ρ) c2).splice hn1 hes1
      have hcl := c2.len
      have hel : e < css.length := (List.getElem?_eq_some_iff.1 c1).1
      have hflat : css.flatten.length = css.length * at_.size := flatten_len_const f1.lens
      have hin : e * at_.size + at_.size ≤ css.length * at_.size := by
        have := Nat.mul_le_mul_right at_.size (Nat.succ_le_of_lt hel)
        rwa [Nat.succ_mul] at this
      have harr : arr.toList = arr.toList.take c ++ (css.flatten ++ r') := by rw [← g1, List.take_append_drop]
      have hpl : (arr.toList.take c).length = c := by simp at h7 ⊢; omega
      have harl : arr.size = c + (css.flatten.length + r'.length) := by
        have := congrArg List.length harr
        rw [List.length_append, hpl, List.length_append] at this; simpa using this
      simp only [Array.length_toList] at h9 h10
      obtain ⟨w', arr', r1, r2, r3, r4⟩ := (hE.tab _ _ hti).run_storeVar (o := c + (e * at_.size + j)) h3 h4 hn2 (by omega) (fun u hu => hn1.oneCell u hu)
      have hsz' : arr'.size = arr.size := by
        have := congrArg List.length r4
        simp only [Array.length_toList, List.length_append, List.length_take, List.length_drop] at this; omega
      have hpr : PR w I at_ x' (ce.take j ++ (ac.eval v).cells.toList ++ ce.drop (j + (ac.eval v).cells.size)) := whole_pr hx' h10
      have hset := f1.set e hpr
      have hnew2 : ERs w I ρ [.pv (.arr n' at_) (xs.set e x')] (css.set e (ce.take j ++ (ac.eval v).cells.toList ++ ce.drop (j + (ac.eval v).cells.size))).flatten :=
        ERs.cons.2 ⟨_, [], (List.append_nil _).symm, CR.pv.2 (by rw [PR]; exact ⟨by simpa using hn, _, hset, rfl⟩), ERs.nil.2 rfl⟩
      obtain ⟨h11, h12⟩ := h5.splice hnew2 hes
      refine ⟨undef, w', I, ρ, .inr ⟨?_, rfl⟩, write_box hre hl h1 h2 r2 r3 (by rw [hsz']; exact h4) ?_, by rw [FR], fun i y h => .inl h⟩
      · simp only [execOp, ho, e3, Instr.storeAt, Instr.sureAddr, ← hnm.2, Nat.add_assoc] at r1 ⊢
        simp [r1]
      · have hfl2 : (css.set e (ce.take j ++ (ac.eval v).cells.toList ++ ce.drop (j + (ac.eval v).cells.size))).flatten.length = css.flatten.length := by
          rw [flatten_len_const hset.lens, hflat]; simp
        rw [hfl2] at h12
        have key := flatten_set_mid (k := at_.size) (arr.toList.take c) r' (ac.eval v).cells.toList j (css := css) (e := e) (c := ce) f1.lens c1 (by simp; omega)
        rw [← harr, hpl] at key
        simp only [Array.length_toList] at key
        rw [r4, ← hn2, key]
        have : arr.toList.drop (c + css.flatten.length) = r' := by
          conv => lhs; rw [harr]
          rw [← List.append_assoc, List.drop_append_of_le_length (by simp at hpl ⊢; omega)]
          rw [List.drop_eq_nil_of_le (by rw [List.length_append, hpl]; omega)]; simp
        rw [this] at h12
        simpa using h12
  case h_4 => cases h
end
end Go.AM
set_option linter.unusedSimpArgs false
set_option linter.unusedVariables false
namespace Go.AM
section
variable {R : Type} {P : Program} {G : Nat} {H0 : Array Obj} {E : Env R} {σ : Operand → SV} {look : Look} {p : Nat} {k : KOp R} {r : R}

theorem bif_some {b : Bool} {x : Option R} {r : R} (h : (bif b then x else none) = some r) : b = true ∧ x = some r := by
  cases b
  · cases h
  · exact ⟨rfl, h⟩

theorem inB_iff {i : Int} {n : Nat} : inB i n = true ↔ 0 ≤ i ∧ i < (n : Int) := by simp [inB]

theorem string_get {s : List UInt8} {i : Nat} (h : i < s.length) : (⟨s.toArray⟩ : ByteArray)[i]? = some (s.getD i 0) := by
  have hs : i < (⟨s.toArray⟩ : ByteArray).size := by simpa [ByteArray.size] using h
  rw [getElem?_pos (⟨s.toArray⟩ : ByteArray) i hs]
  simp [List.getD, List.getElem?_eq_getElem h]
  rfl

theorem index_ok (hE : TabOk P E) {t : Nat} {x ix : Operand} (h : xop E (.index t x ix) σ look p k = some r) : OpOk P G H0 E (.index t x ix) σ look p k r := by
  simp only [xop, xindex] at h
  have ha : ∀ σ' : Operand → SV, (∀ y, y ∈ (Op.index t x ix).operands.toList → σ' y = σ y) → σ' x = σ x ∧ σ' ix = σ ix := fun σ' hσ => ⟨hσ x (by simp [Op.operands]), hσ ix (by simp [Op.operands])⟩
  split at h
  case h_2 => cases h
  case h_1 j i hix =>
  split at h
  case h_1 sz ag by_ ty zr eq ht =>
    split at h
    case h_2 => cases h
    case h_1 s hx =>
    obtain ⟨hb, h⟩ := bif_some h
    refine ⟨_, _, _, h, fun σ' look' hσ hlk k' => ?_, Sound.calm fun o ac w I ρ ho hre hr => ?_⟩
    · obtain ⟨e1, e2⟩ := ha σ' hσ
      simp only [xop, xindex, e1, e2, hix, ht, hx, hb, cond_true]
    · have h1 := hr x; rw [hx] at h1
      have h2 := hr ix; rw [hix] at h2
      obtain ⟨b1, b2⟩ := inB_iff.1 hb
      obtain ⟨d, d1, d2, d3⟩ := (hE.tab _ _ ht).desc
      cases d2
      refine ⟨_, ?_, FR.int_mk⟩
      have hl : i.toNat < s.length := by omega
      simp [execOp, ho, h1.str, h2.int, Instr.index, asIntOf, underlying, d1, b1, string_get hl]
  case h_2 n e sz ag by_ ty zr eq ht =>
    split at h
    case h_2 => cases h
    case h_1 m at_ xs hx =>
    split at h
    case h_2 => cases h
    case h_1 te hte =>
    split at h
    case isFalse => cases h
    case isTrue hmn =>
    obtain ⟨hb, h⟩ := bif_some h
    obtain ⟨es', v, hs, hk, hkk, hcase⟩ := loadE_some h
    cases hs
    refine ⟨_, _, _, hk, fun σ' look' hσ hlk k' => ?_, Sound.calm fun o ac w I ρ ho hre hr => ?_⟩
    · obtain ⟨e1, e2⟩ := ha σ' hσ
      simp only [xop, xindex, e1, e2, hix, ht, hx, hb, cond_true, hte, hmn, and_self, if_true]
      exact hkk fun v => k' v [] []
    · have h1 := hr x; rw [hx, FR] at h1
      obtain ⟨cs, e3, h1⟩ := h1
      have h2 := hr ix; rw [hix] at h2
      obtain ⟨b1, b2⟩ := inB_iff.1 hb
      obtain ⟨d, d1, d2, d3⟩ := (hE.tab _ _ ht).desc
      cases d2
      obtain ⟨l, r', g1, g2, g3⟩ := ERs.cons.1 h1
      rw [ERs.nil] at g3; subst g3
      have g2' := CR.pv.1 g2
      rw [PR] at g2'
      obtain ⟨hn, css, f1, rfl⟩ := g2'
      rw [List.append_nil] at g1
      have hlt : i.toNat < List.length xs := by omega
      obtain ⟨ce, c1, c2, c3⟩ := row_elem f1 hlt at_.dflt
      have hdrop : ERs w I ρ (flat at_ (List.getD xs i.toNat at_.dflt)) ((cs.toList.drop (i.toNat * te.size)).take at_.size) := by
        rw [g1, hmn.2]
        have : (css.flatten.drop (i.toNat * at_.size)).take at_.size = ce := by
          apply List.ext_getElem?
          intro q
          rw [List.getElem?_take]
          split
          · rw [List.getElem?_drop]
            have hq : q < ce.length := by rw [c2.len]; assumption
            rw [c3 q _ (List.getElem?_eq_getElem hq), List.getElem?_eq_getElem hq]
          · rw [List.getElem?_eq_none]; rw [c2.len]; omega
        rw [this]; exact flat_ers c2
      have hpart : ∃ y, (part e cs (i.toNat * te.size)).run P w = .ok y w ∧ FR w I ρ v y := by
        rcases loadE_fr hdrop hcase with ⟨ha', h3, h4⟩ | ⟨ha', y, q, h3, _, h5⟩
        · refine ⟨_, ((hE.tab _ _ hte).run_part cs _ w).1 ha', ?_⟩
          have : cs.extract (i.toNat * te.size) (i.toNat * te.size + te.size) = (((cs.toList.drop (i.toNat * te.size)).take at_.size).take te.size).toArray := by
            apply Array.ext'
            simp [Array.toList_extract, List.extract, Nat.add_sub_cancel_left, List.take_take, hmn.2]
          rw [this]; exact h4
        · refine ⟨y, ((hE.tab _ _ hte).run_part cs _ w).2 ha' y ?_, h5⟩
          have h6 : ((cs.toList.drop (i.toNat * te.size)).take at_.size)[0]? = some y := by rw [h3]; rfl
          rw [List.getElem?_take] at h6
          split at h6
          · rwa [List.getElem?_drop, Nat.add_zero, Array.getElem?_toList] at h6
          · cases h6
      obtain ⟨y, h5, h6⟩ := hpart
      refine ⟨y, ?_, h6⟩
      simp [execOp, ho, e3, h2.int, Instr.index, asIntOf, underlying, d1, b1, b2, (hE.tab _ _ hte).run_sizeOf, h5]
  case h_3 => cases h

theorem slV_at {b : Option Nat} {off e n k cap : Nat} {v : Value} (h : slV b off e n k cap v) (hn : 0 < n) (hle : e + n ≤ cap) : ∃ b', b = some b' ∧ v = .slice (some ⟨b', off + e * k, none⟩) n (cap - e) := by
  obtain ⟨q, rfl, hq⟩ := h
  obtain ⟨b', h1, rfl⟩ := hq (by omega)
  exact ⟨b', h1, rfl⟩

theorem run_indexAt_slice {t e : Nat} {te : TI} (ht : P.underlying t = some (.slice e)) (hte : TIok P e te) (b o n c : Nat) (j : IntKind) (i : Int) (h1 : 0 ≤ i) (h2 : i < (n : Int)) (w : World) :
    (Instr.indexAt t (.slice (some ⟨b, o, none⟩) n c) (.int j i)).run P w = .ok (.pointer (some ⟨b, o + i.toNat * te.size, none⟩)) w := by
  simp [Instr.indexAt, asIntOf, underlying, ht, h1, h2, hte.run_sizeOf, addr_add]

theorem indexAddr_ok (hE : TabOk P E) {t : Nat} {x ix : Operand} (h : xop E (.indexAddr t x ix) σ look p k = some r) : OpOk P G H0 E (.indexAddr t x ix) σ look p k r := by
  simp only [xop, xindexAddr] at h
  have ha : ∀ σ' : Operand → SV, (∀ y, y ∈ (Op.indexAddr t x ix).operands.toList → σ' y = σ y) → σ' x = σ x ∧ σ' ix = σ ix := fun σ' hσ => ⟨hσ x (by simp [Op.operands]), hσ ix (by simp [Op.operands])⟩
  split at h
  case h_2 => cases h
  case h_1 j i hix =>
  split at h
  case h_1 e sz ag by_ ty zr eq ht =>
    split at h
    case h_2 => cases h
    case h_1 te hte =>
    obtain ⟨d, d1, d2, d3⟩ := (hE.tab _ _ ht).desc
    cases d2
    have run := fun b o n c j i h1 h2 w => run_indexAt_slice d1 (hE.tab _ _ hte) b o n c j i h1 h2 w
    split at h
    case h_1 b hx =>
      split at h
      case h_2 => cases h
      case h_1 t' xs ety gr hl =>
      split at h
      case isFalse => cases h
      case isTrue hsz =>
      obtain ⟨hb, h⟩ := bif_some h
      refine ⟨_, _, _, h, fun σ' look' hσ hlk k' => ?_, Sound.calm fun o ac w I ρ ho hre hr => ?_⟩
      · obtain ⟨e1, e2⟩ := ha σ' hσ
        simp only [xop, xindexAddr, e1, e2, hix, ht, hte, hx, hlk b (by simp), hl, hsz, if_true, hb, cond_true]
      · have h2 := hr ix; rw [hix] at h2
        obtain ⟨b1, b2⟩ := inB_iff.1 hb
        have hbl := hre.blk b; rw [hl] at hbl
        obtain ⟨y, g1, g2, g3, g4, g5, g6, g7⟩ := hbl
        have h1 := hr x; rw [hx, FR] at h1
        obtain ⟨y', k1, k2⟩ := h1
        rw [g1] at k1; cases k1
        obtain ⟨b', k3, k4⟩ := slV_at k2 (by omega) (by omega)
        rw [Nat.zero_mul, Nat.sub_zero, Nat.add_zero] at k4
        have hrun := run b' y.off y.len y.cap j i b1 (by omega) w
        refine ⟨.pointer (some ⟨b', y.off + i.toNat * te.size, none⟩), ?_, ?_⟩
        · simp [execOp, ho, k4, h2.int, hrun]
        · rw [FR]; exact ⟨y, b', g1, k3, by rw [g3, hsz]; simp, by omega⟩
    case h_2 b e' n hx =>
      split at h
      case h_2 => cases h
      case h_1 t' xs ety gr hl =>
      split at h
      case isFalse => cases h
      case isTrue hsz =>
      obtain ⟨hb, h⟩ := bif_some h
      refine ⟨_, _, _, h, fun σ' look' hσ hlk k' => ?_, Sound.calm fun o ac w I ρ ho hre hr => ?_⟩
      · obtain ⟨e1, e2⟩ := ha σ' hσ
        simp only [xop, xindexAddr, e1, e2, hix, ht, hte, hx, hlk b (by simp), hl, hsz, if_true, hb, cond_true]
      · have h2 := hr ix; rw [hix] at h2
        obtain ⟨b1, b2⟩ := inB_iff.1 hb
        have hbl := hre.blk b; rw [hl] at hbl
        obtain ⟨y, g1, g2, g3, g4, g5, g6, g7⟩ := hbl
        have h1 := hr x; rw [hx, FR] at h1
        obtain ⟨y', k1, k0, k2⟩ := h1
        rw [g1] at k1; cases k1
        obtain ⟨b', k3, k4⟩ := slV_at k2 (by omega) (by omega)
        refine ⟨.pointer (some ⟨b', y.off + e' * y.esz + i.toNat * te.size, none⟩), ?_, ?_⟩
        · simp [execOp, ho, k4, h2.int, run b' _ _ _ j i b1 (by omega) w]
        · rw [FR]; exact ⟨y, b', g1, k3, by rw [g3, hsz, Nat.add_mul, Nat.add_assoc]; simp, by omega⟩
    case h_3 at_ xs hx =>
      split at h
      case isFalse => cases h
      case isTrue hsz =>
      obtain ⟨hb, h⟩ := bif_some h
      refine ⟨_, _, _, h, fun σ' look' hσ hlk k' => ?_, Sound.calm fun o ac w I ρ ho hre hr => ?_⟩
      · obtain ⟨e1, e2⟩ := ha σ' hσ
        simp only [xop, xindexAddr, e1, e2, hix, ht, hte, hx, hsz, if_true, hb, cond_true]
      · have h2 := hr ix; rw [hix] at h2
        obtain ⟨b1, b2⟩ := inB_iff.1 hb
        have h1 := hr x; rw [hx, FR, PR] at h1
        rcases h1 with ⟨rfl, _⟩ | ⟨b, o', c, css, hI, e3, hc, h3, h4⟩
        · simp at b2; omega
        · simp at e3
          have hlt : i.toNat < List.length xs := by omega
          obtain ⟨ce, c1, c2, c3⟩ := row_elem h3 hlt at_.dflt
          refine ⟨.pointer (some ⟨b, o' + i.toNat * te.size, none⟩), ?_, ?_⟩
          · simp [execOp, ho, e3, h2.int, run b _ _ _ j i b1 b2 w]
          · rw [FR, PR]; exact ⟨b, _, ce, hI, rfl, c2, by rw [hsz]; exact h4.sub _ c3⟩
    case h_4 => cases h
  case h_2 n e sz ag by_ ty zr eq ht =>
    split at h
    case h_2 => cases h
    case h_1 te hte =>
    obtain ⟨d, d1, d2, d3⟩ := (hE.tab _ _ ht).desc
    cases d2
    split at h
    case h_1 b c hx =>
      obtain ⟨hb, h⟩ := bif_some h
      refine ⟨_, _, _, h, fun σ' look' hσ hlk k' => ?_, Sound.calm fun o ac w I ρ ho hre hr => ?_⟩
      · obtain ⟨e1, e2⟩ := ha σ' hσ
        simp only [xop, xindexAddr, e1, e2, hix, ht, hte, hx, hb, cond_true]
      · have h2 := hr ix; rw [hix] at h2
        obtain ⟨b1, b2⟩ := inB_iff.1 hb
        have h1 := hr x; rw [hx, FR] at h1
        obtain ⟨y, b', g1, g2, g3⟩ := h1
        refine ⟨.pointer (some ⟨b', c + i.toNat * te.size, none⟩), ?_, ?_⟩
        · simp [execOp, ho, g3, h2.int, Instr.indexAt, asIntOf, underlying, d1, Instr.sureAddr, b1, b2, (hE.tab _ _ hte).run_sizeOf, addr_add]
        · rw [FR]; exact ⟨y, b', g1, g2, rfl, by omega⟩
    case h_2 m at_ o' hx =>
      split at h
      case isFalse => cases h
      case isTrue hmn =>
      replace h := deref_some h
      obtain ⟨xs, rfl, h⟩ := h
      obtain ⟨hb, h⟩ := bif_some h
      refine ⟨_, _, _, h, fun σ' look' hσ hlk k' => ?_, Sound.calm fun o ac w I ρ ho hre hr => ?_⟩
      · obtain ⟨e1, e2⟩ := ha σ' hσ
        simp only [xop, xindexAddr, e1, e2, hix, ht, hte, hx, hmn, and_self, if_true, deref, hb, cond_true]
      · have h2 := hr ix; rw [hix] at h2
        obtain ⟨b1, b2⟩ := inB_iff.1 hb
        have h1 := hr x; rw [hx, FR, PR] at h1
        obtain ⟨b, c, cs, hI, e3, h3, h4⟩ := h1
        simp at e3
        rw [PR] at h3
        obtain ⟨hn, css, f1, rfl⟩ := h3
        have hlt : i.toNat < List.length xs := by omega
        obtain ⟨ce, c1, c2, c3⟩ := row_elem f1 hlt at_.dflt
        refine ⟨.pointer (some ⟨b, c + i.toNat * te.size, none⟩), ?_, ?_⟩
        · simp [execOp, ho, e3, h2.int, Instr.indexAt, asIntOf, underlying, d1, Instr.sureAddr, b1, b2, (hE.tab _ _ hte).run_sizeOf, addr_add]
        · rw [FR, PR]; exact ⟨b, _, ce, hI, rfl, c2, by rw [hmn.2]; exact h4.sub _ c3⟩
    case h_3 => cases h
  case h_3 => cases h
end
end Go.AM
set_option linter.unusedSimpArgs false
set_option linter.unusedVariables false
namespace Go.AM
section
variable {R : Type} {P : Program} {G : Nat} {H0 : Array Obj} {E : Env R} {σ : Operand → SV} {look : Look} {p : Nat} {k : KOp R} {r : R}

theorem append_mk (a b : List UInt8) : (⟨a.toArray⟩ : ByteArray) ++ ⟨b.toArray⟩ = ⟨(a ++ b).toArray⟩ := by
  apply ByteArray.ext
  simp [ByteArray.data_append]

theorem size_mk (a : List UInt8) : (⟨a.toArray⟩ : ByteArray).size = a.length := by simp [ByteArray.size]

theorem beq_list (a b : List UInt8) : (a == b) = decide (a = b) := by
  by_cases h : a = b
  · subst h; simp
  · simp [h]

theorem run_equal {t : Nat} {d : TypeDesc} (ht : P.underlying t = some d) (x y : Value) (w : World) :
    (Op.equal t x y).run P w = (Op.equalIn (9999 + 1) t x y).run P w := rfl

theorem bif_none {b : Bool} {x : Option R} {r : R} (h : (bif b then none else x) = some r) : b = false ∧ x = some r := by
  cases b
  · exact ⟨rfl, h⟩
  · cases h

theorem run_part1 {t : Nat} {d : TypeDesc} (ht : P.underlying t = some d) (hd : aggDesc d = false) {cs : Array Value} {n : Nat} {v : Value} (hv : cs[n]? = some v) (w : World) : (part t cs n).run P w = .ok v w := by
  have : (isAgg t).run P w = .ok false w := by
    simp only [isAgg, underlying, Sem.run_bind, run_program, Result.andThen_ok, ht, Sem.run_pure]
    rw [← hd]; cases d <;> rfl
  simp [part, this, hv]

theorem drop_head {cs : Array Value} {n : Nat} {v : Value} {l : List Value} (h : cs.toList.drop n = v :: l) : cs[n]? = some v ∧ cs.toList.drop (n + 1) = l := by
  constructor
  · have : (cs.toList.drop n)[0]? = some v := by rw [h]; rfl
    rwa [List.getElem?_drop, Nat.add_zero, Array.getElem?_toList] at this
  · have := congrArg (List.drop 1) h
    rw [List.drop_drop] at this
    simpa [Nat.add_comm] using this

theorem ers_head {w : World} {I : Nat → Prop} {ρ : Nat → Option Info} {t : Ty} {x : t.D} {xs : List SV} {vs : List Value} (h : ERs w I ρ (.pv t x :: xs) vs) {v : Value} (hv : ∀ l, PR w I t x l → l = [v]) : ∃ r, vs = v :: r ∧ ERs w I ρ xs r := by
  obtain ⟨l, r, rfl, h1, h2⟩ := ERs.cons.1 h
  have := hv l (CR.pv.1 h1)
  subst this
  exact ⟨r, rfl, h2⟩

theorem eqEnts_ok {w : World} {I : Nat → Prop} {ρ : Nat → Option Info} {d : Nat} : ∀ (zs xs ys : List SV) (b : Bool), eqEnts zs xs ys = some b → ∀ (n : Nat) (fs : List Field), FE P n zs fs → ∀ (cs ds : Array Value), ERs w I ρ xs (cs.toList.drop n) → ERs w I ρ ys (ds.toList.drop n) →
    (Op.eqFields (d + 1) cs ds fs).run P w = .ok b w := by
  intro zs
  induction zs with
  | nil =>
    intro xs ys b h n fs hf cs ds hx hy
    cases fs with
    | cons => exact hf.elim
    | nil =>
      cases xs with
      | cons => simp [eqEnts] at h
      | nil => cases ys with
        | cons => simp [eqEnts] at h
        | nil => simp [eqEnts] at h; subst h; simp [Op.eqFields]
  | cons z zs ih =>
    intro xs ys b h n fs hf cs ds hx hy
    cases fs with
    | nil => exact hf.elim
    | cons f fs =>
    obtain ⟨hn, ho, ⟨de, hd, hk⟩, hr⟩ := hf
    unfold eqEnts at h
    split at h
    case h_1 => simp_all
    case h_2 kz az zs' j a xs' l c ys' heqz =>
      injection heqz with hz1 hz2
      subst hz1; subst hz2
      obtain ⟨j', rfl⟩ := hk
      split at h
      case isFalse => cases h
      case isTrue hjl =>
      subst hjl
      obtain ⟨b', hb', rfl⟩ := Option.map_eq_some_iff.1 h
      obtain ⟨r1, e1, e2⟩ := ers_head hx (v := .int j a) fun l hl => by rw [PR] at hl; exact hl
      obtain ⟨r2, e3, e4⟩ := ers_head hy (v := .int j c) fun l hl => by rw [PR] at hl; exact hl
      obtain ⟨c1, c2⟩ := drop_head e1
      obtain ⟨c3, c4⟩ := drop_head e3
      have := ih xs' ys' b' hb' (n + 1) fs hr cs ds (by rw [c2]; exact e2) (by rw [c4]; exact e4)
      simp only [Op.eqFields, hn, ne_eq, not_false_eq_true, if_true, ho, Sem.run_bind, run_part1 hd rfl c1, run_part1 hd rfl c3, Result.andThen_ok, run_equalIn_int w d f.type j j' a c hd]
      change Int at a c
      by_cases hac : a = c
      · subst hac; simp [this]
      · simp [hac]
    case h_3 az zs' a xs' c ys' heqz =>
      injection heqz with hz1 hz2
      subst hz1; subst hz2
      simp only [fieldKind] at hk
      subst hk
      obtain ⟨b', hb', rfl⟩ := Option.map_eq_some_iff.1 h
      obtain ⟨r1, e1, e2⟩ := ers_head hx (v := .string ⟨a.toArray⟩) fun l hl => by rw [PR] at hl; exact hl
      obtain ⟨r2, e3, e4⟩ := ers_head hy (v := .string ⟨c.toArray⟩) fun l hl => by rw [PR] at hl; exact hl
      obtain ⟨c1, c2⟩ := drop_head e1
      obtain ⟨c3, c4⟩ := drop_head e3
      have := ih xs' ys' b' hb' (n + 1) fs hr cs ds (by rw [c2]; exact e2) (by rw [c4]; exact e4)
      simp only [Op.eqFields, hn, ne_eq, not_false_eq_true, if_true, ho, Sem.run_bind, run_part1 hd rfl c1, run_part1 hd rfl c3, Result.andThen_ok, run_equalIn_string w d f.type _ _ hd]
      change List UInt8 at a c
      by_cases hac : a = c
      · subst hac; simp [this]
      · simp [ByteArray.toList_eq, hac]
    case h_4 az zs' a xs' c ys' heqz =>
      injection heqz with hz1 hz2
      subst hz1; subst hz2
      simp only [fieldKind] at hk
      subst hk
      obtain ⟨b', hb', rfl⟩ := Option.map_eq_some_iff.1 h
      obtain ⟨r1, e1, e2⟩ := ers_head hx (v := .bool a) fun l hl => by rw [PR] at hl; exact hl
      obtain ⟨r2, e3, e4⟩ := ers_head hy (v := .bool c) fun l hl => by rw [PR] at hl; exact hl
      obtain ⟨c1, c2⟩ := drop_head e1
      obtain ⟨c3, c4⟩ := drop_head e3
      have := ih xs' ys' b' hb' (n + 1) fs hr cs ds (by rw [c2]; exact e2) (by rw [c4]; exact e4)
      simp only [Op.eqFields, hn, ne_eq, not_false_eq_true, if_true, ho, Sem.run_bind, run_part1 hd rfl c1, run_part1 hd rfl c3, Result.andThen_ok, run_equalIn_bool w d f.type _ _ hd]
      change Bool at a c
      cases a <;> cases c <;> simp [this]
    case h_5 => cases h

def EqAt (P : Program) (G : Nat) (H0 : Array Obj) (t : Nat) (yc : Bool) (look : Look) (x y : SV) (b : Bool) : Prop :=
  ∀ (w : World) (I : Nat → Prop) (ρ : Nat → Option Info) (u v : Value), Real G H0 w I ρ look → FR w I ρ x u → FR w I ρ y v →
    (Op.equal t u v).run P w = .ok b w ∧ (∀ op ox oy, (oy = Operand.const .nilIface ∨ yc = false) → (eqGuard op t ox oy u v).run P w = .ok () w) ∧
    (binOp .eql t u v = (do pure (.bool (← Op.equal t u v)))) ∧ (binOp .neq t u v = (do pure (.bool (!(← Op.equal t u v)))))

theorem xeq_inv (hE : TabOk P E) {t : Nat} {ti : TI} (ht : E.tab t = some ti) {yc : Bool} {x y : SV} {kb : Bool → List Nat → Option R} (h : xeq ti yc look x y kb = some r) :
    ∃ b τ, kb b τ = some r ∧ (∀ look' : Look, (∀ i, i ∈ τ → look' i = look i) → ∀ kb' : Bool → List Nat → Option R, xeq ti yc look' x y kb' = kb' b τ) ∧ EqAt P G H0 t yc look x y b := by
  unfold xeq at h
  obtain ⟨d, d1, d2, d3⟩ := (hE.tab _ _ ht).desc
  split at h
  case h_1 hk =>
    rw [hk] at d2; cases d2
    split at h
    case h_2 => cases h
    case h_1 a b =>
    refine ⟨_, _, h, fun look' _ kb' => by simp [xeq, hk], fun w I ρ u v _ hu hv => ?_⟩
    rw [hu.bool, hv.bool]
    refine ⟨?_, fun op ox oy _ => ?_, rfl, rfl⟩
    · rw [run_equal d1, Op.equalIn]; simp [underlying, d1]
    · simp only [eqGuard]; split <;> simp
  case h_2 e hk =>
    rw [hk] at d2; cases d2
    split at h
    case h_1 a o =>
      refine ⟨_, _, h, fun look' _ kb' => by simp [xeq, hk], fun w I ρ u v _ hu hv => ?_⟩
      rw [FR] at hv; subst hv
      rw [FR] at hu
      cases o with
      | none =>
        rw [PR] at hu
        simp at hu; subst hu
        refine ⟨?_, fun op ox oy _ => ?_, rfl, rfl⟩
        · rw [run_equal d1, Op.equalIn]; simp [underlying, d1]
        · simp only [eqGuard]; split <;> simp
      | some z =>
        rw [PR] at hu
        obtain ⟨b, c, cs, _, e1, _⟩ := hu
        simp at e1; subst e1
        refine ⟨?_, fun op ox oy _ => ?_, rfl, rfl⟩
        · rw [run_equal d1, Op.equalIn]; simp [underlying, d1]
        · simp only [eqGuard]; split <;> simp
    case h_2 i c =>
      refine ⟨_, _, h, fun look' _ kb' => by simp [xeq, hk], fun w I ρ u v _ hu hv => ?_⟩
      rw [FR] at hv; subst hv
      rw [FR] at hu; obtain ⟨z, b, _, _, rfl⟩ := hu
      refine ⟨?_, fun op ox oy _ => ?_, rfl, rfl⟩
      · rw [run_equal d1, Op.equalIn]; simp [underlying, d1]
      · simp only [eqGuard]; split <;> simp
    case h_3 =>
      refine ⟨_, _, h, fun look' _ kb' => by simp [xeq, hk], fun w I ρ u v _ hu hv => ?_⟩
      rw [FR] at hv hu; subst hv; subst hu
      refine ⟨?_, fun op ox oy _ => ?_, rfl, rfl⟩
      · rw [run_equal d1, Op.equalIn]; simp [underlying, d1]
      · simp only [eqGuard]; split <;> simp
    case h_4 => cases h
  case h_3 e hk =>
    rw [hk] at d2; cases d2
    split at h
    case h_1 =>
      refine ⟨_, _, h, fun look' _ kb' => by simp [xeq, hk], fun w I ρ u v _ hu hv => ?_⟩
      rw [FR] at hv hu; subst hv; subst hu
      refine ⟨?_, fun op ox oy _ => ?_, rfl, rfl⟩
      · rw [run_equal d1, Op.equalIn]; simp [underlying, d1]
      · simp only [eqGuard]; split <;> simp
    case h_2 i =>
      split at h
      case h_2 => cases h
      case h_1 t' xs ety gr hl =>
      obtain ⟨hem, h⟩ := bif_none h
      refine ⟨_, _, h, fun look' hlk kb' => by simp only [xeq, hk, hlk i (by simp), hl, hem, cond_false], fun w I ρ u v hre hu hv => ?_⟩
      rw [FR] at hv; subst hv
      rw [FR] at hu; obtain ⟨z, hz, hs⟩ := hu
      have hb := hre.blk i; rw [hl] at hb
      obtain ⟨z', g1, g2, g3, g4, _⟩ := hb
      rw [hz] at g1; cases g1
      have : 0 < xs.length := by cases xs with
        | nil => simp at hem
        | cons => simp
      obtain ⟨b', h1, rfl⟩ := slV_at hs (by omega) (by omega)
      refine ⟨?_, fun op ox oy _ => ?_, rfl, rfl⟩
      · rw [run_equal d1, Op.equalIn]; simp [underlying, d1]
      · simp only [eqGuard]; split <;> simp
    case h_3 => cases h
  case h_4 hk =>
    rw [hk] at d2; obtain ⟨ms, rfl⟩ := d2
    split at h
    case h_2 => cases h
    case h_1 b =>
    refine ⟨_, _, h, fun look' _ kb' => by simp [xeq, hk], fun w I ρ u v _ hu hv => ?_⟩
    rw [FR] at hv; subst hv
    rw [FR] at hu
    cases b with
    | true =>
      rw [PR] at hu
      simp at hu; subst hu
      refine ⟨?_, fun op ox oy hc => ?_, rfl, rfl⟩
      · rw [run_equal d1, Op.equalIn]; simp [underlying, d1]
      · rcases hc with rfl | hc
        · simp [eqGuard]
        · cases hc
    | false =>
      rw [PR] at hu
      obtain ⟨t', x', e1⟩ := hu
      simp at e1; subst e1
      refine ⟨?_, fun op ox oy hc => ?_, rfl, rfl⟩
      · rw [run_equal d1, Op.equalIn]; simp [underlying, d1]
      · simp only [eqGuard]; split <;> simp
  case h_5 offs hk =>
    split at h
    case h_2 => cases h
    case h_1 xs ys heqs =>
    split at h
    case h_2 => cases h
    case h_1 b hb =>
    obtain ⟨e1, e2, fs, e3, e4⟩ := (hE.tab _ _ ht).eqs heqs
    refine ⟨_, _, h, fun look' _ kb' => by simp only [xeq, hk, heqs, hb], fun w I ρ u v _ hu hv => ?_⟩
    rw [FR] at hu hv
    obtain ⟨cs, rfl, hu⟩ := hu
    obtain ⟨ds, rfl, hv⟩ := hv
    refine ⟨?_, fun op ox oy _ => run_eqGuard_agg w op t ox oy cs ds e2, rfl, rfl⟩
    have hfs : P.fieldsOf t = fs := by simp [Program.fieldsOf, e3]
    rw [run_equal d1, run_equalIn_struct w 9999 t cs ds (by rw [hfs]; exact e3) e1, hfs]
    exact eqEnts_ok (d := 9998) ti.zero xs ys b hb 0 fs.toList e4 cs ds (by simpa using hu) (by simpa using hv)
  case h_6 => cases h

theorem binOp_ok (hE : TabOk P E) {op : BinOp} {t u : Nat} {x y : Operand} (h : xop E (.binOp op t x y u) σ look p k = some r) : OpOk P G H0 E (.binOp op t x y u) σ look p k r := by
  simp only [xop, xbin] at h
  have ha : ∀ σ' : Operand → SV, (∀ z, z ∈ (Op.binOp op t x y u).operands.toList → σ' z = σ z) → σ' x = σ x ∧ σ' y = σ y := fun σ' hσ => ⟨hσ x (by simp [Op.operands]), hσ y (by simp [Op.operands])⟩
  split at h
  case h_1 kx a ky b hx hy =>
    have mk : ∀ {v : SV} (_ : k v [] [] = some r) (_ : ∀ k' : KOp R, xop E (.binOp op t x y u) σ look p k' = k' v [] [])
        (_ : ∀ w I ρ, ∃ z, (do eqGuard op t x y (.int kx a) (.int ky b); binOp op t (.int kx a) (.int ky b) : Sem Value).run P w = .ok z w ∧ FR w I ρ v z), OpOk P G H0 E (.binOp op t x y u) σ look p k r := by
      intro v hk hloc hrun
      refine ⟨v, [], [], hk, fun σ' look' hσ _ k' => ?_, Sound.calm fun o ac w I ρ ho _ hr => ?_⟩
      · obtain ⟨e1, e2⟩ := ha σ' hσ
        rw [← hloc k']
        simp only [xop, xbin, e1, e2, hx, hy]
      · have h1 := hr x; rw [hx] at h1
        have h2 := hr y; rw [hy] at h2
        obtain ⟨z, h3, h4⟩ := hrun w I ρ
        exact ⟨z, by simp only [execOp, ho, h1.int, h2.int, Sem.run_bind, h3, Result.andThen_ok, Sem.run_pure], h4⟩
    have hloc0 : ∀ k' : KOp R, xop E (.binOp op t x y u) σ look p k' = xbin E op t (isNilIf y) look (.pv (.int kx) a) (.pv (.int ky) b) fun v d => k' v [] d := fun k' => by simp only [xop, hx, hy]
    have hg : ∀ w, (eqGuard op t x y (.int kx a) (.int ky b)).run P w = .ok () w := fun w => by simp only [eqGuard]; split <;> simp
    split at h
    case h_1 =>
      obtain ⟨hb, h⟩ := bif_some h
      refine mk h (fun k' => by rw [hloc0]; simp only [xbin, hb, cond_true]) fun w I ρ => ⟨_, ?_, FR.int_mk⟩
      have hb' : ¬ b < 0 := by simpa using hb
      simp [hg, binOp, Op.shift, hb']
    case h_2 =>
      obtain ⟨hb, h⟩ := bif_some h
      refine mk h (fun k' => by rw [hloc0]; simp only [xbin, hb, cond_true]) fun w I ρ => ⟨_, ?_, FR.int_mk⟩
      have hb' : ¬ b < 0 := by simpa using hb
      simp [hg, binOp, Op.shift, hb']
    case h_3 hs1 hs2 =>
    split at h
    case isFalse => cases h
    case isTrue hkk =>
    subst hkk
    cases op with
    | shl => exact absurd rfl hs1
    | shr => exact absurd rfl hs2
    | add => exact mk h (fun k' => by rw [hloc0]; simp [xbin]) fun w I ρ => ⟨_, by simp [hg, binOp, Op.intArith], FR.int_mk⟩
    | sub => exact mk h (fun k' => by rw [hloc0]; simp [xbin]) fun w I ρ => ⟨_, by simp [hg, binOp, Op.intArith], FR.int_mk⟩
    | mul => exact mk h (fun k' => by rw [hloc0]; simp [xbin]) fun w I ρ => ⟨_, by simp [hg, binOp, Op.intArith], FR.int_mk⟩
    | quo =>
      obtain ⟨hb, h⟩ := bif_none h
      have hb' : ¬ (b = 0) := by simpa using hb
      exact mk h (fun k' => by rw [hloc0]; simp only [xbin, hb, cond_false, if_true]) fun w I ρ => ⟨_, by simp [hg, binOp, Op.intDiv, hb'], FR.int_mk⟩
    | rem =>
      obtain ⟨hb, h⟩ := bif_none h
      have hb' : ¬ (b = 0) := by simpa using hb
      exact mk h (fun k' => by rw [hloc0]; simp only [xbin, hb, cond_false, if_true]) fun w I ρ => ⟨_, by simp [hg, binOp, Op.intDiv, hb'], FR.int_mk⟩
    | and => exact mk h (fun k' => by rw [hloc0]; simp [xbin]) fun w I ρ => ⟨_, by simp [hg, binOp, Op.intBits]; rfl, FR.int_mk⟩
    | or => exact mk h (fun k' => by rw [hloc0]; simp [xbin]) fun w I ρ => ⟨_, by simp [hg, binOp, Op.intBits]; rfl, FR.int_mk⟩
    | xor => exact mk h (fun k' => by rw [hloc0]; simp [xbin]) fun w I ρ => ⟨_, by simp [hg, binOp, Op.intBits]; rfl, FR.int_mk⟩
    | andNot => exact mk h (fun k' => by rw [hloc0]; simp [xbin]) fun w I ρ => ⟨_, by simp [hg, binOp, Op.intBits, ibits], FR.int_mk⟩
    | eql => exact mk h (fun k' => by rw [hloc0]; simp [xbin]) fun w I ρ => ⟨_, by simp [hg, binOp, Op.intCmp]; rfl, FR.bool_mk⟩
    | neq => exact mk h (fun k' => by rw [hloc0]; simp [xbin]) fun w I ρ => ⟨_, by simp [hg, binOp, Op.intCmp, bne]; rfl, FR.bool_mk⟩
    | lss => exact mk h (fun k' => by rw [hloc0]; simp [xbin]) fun w I ρ => ⟨_, by simp [hg, binOp, Op.intCmp], FR.bool_mk⟩
    | leq => exact mk h (fun k' => by rw [hloc0]; simp [xbin]) fun w I ρ => ⟨_, by simp [hg, binOp, Op.intCmp], FR.bool_mk⟩
    | gtr => exact mk h (fun k' => by rw [hloc0]; simp [xbin]) fun w I ρ => ⟨_, by simp [hg, binOp, Op.intCmp], FR.bool_mk⟩
    | geq => exact mk h (fun k' => by rw [hloc0]; simp [xbin]) fun w I ρ => ⟨_, by simp [hg, binOp, Op.intCmp], FR.bool_mk⟩
  case h_2 a b hx hy =>
    have mk : ∀ {v : SV} (_ : k v [] [] = some r) (_ : ∀ k' : KOp R, xop E (.binOp op t x y u) σ look p k' = k' v [] [])
        (_ : ∀ w I ρ, ∃ z, (Op.stringOp op ⟨a.toArray⟩ ⟨b.toArray⟩).run P w = .ok z w ∧ FR w I ρ v z), OpOk P G H0 E (.binOp op t x y u) σ look p k r := by
      intro v hk hloc hrun
      refine ⟨v, [], [], hk, fun σ' look' hσ _ k' => ?_, Sound.calm fun o ac w I ρ ho _ hr => ?_⟩
      · obtain ⟨e1, e2⟩ := ha σ' hσ
        rw [← hloc k']
        simp only [xop, xbin, e1, e2, hx, hy]
      · have h1 := hr x; rw [hx] at h1
        have h2 := hr y; rw [hy] at h2
        obtain ⟨z, h3, h4⟩ := hrun w I ρ
        have hg : (eqGuard op t x y (.string ⟨a.toArray⟩) (.string ⟨b.toArray⟩)).run P w = .ok () w := by simp only [eqGuard]; split <;> simp
        have hb : binOp op t (.string ⟨a.toArray⟩) (.string ⟨b.toArray⟩) = Op.stringOp op ⟨a.toArray⟩ ⟨b.toArray⟩ := by cases op <;> rfl
        exact ⟨z, by simp only [execOp, ho, h1.str, h2.str, Sem.run_bind, hg, hb, h3, Result.andThen_ok, Sem.run_pure], h4⟩
    have hloc0 : ∀ k' : KOp R, xop E (.binOp op t x y u) σ look p k' = xbin E op t (isNilIf y) look (.pv .str a) (.pv .str b) fun v d => k' v [] d := fun k' => by simp only [xop, hx, hy]
    split at h
    case h_1 =>
      obtain ⟨hb, h⟩ := bif_some h
      have hb' : a.length + b.length ≤ LIM := by simpa using hb
      refine mk h (fun k' => by rw [hloc0]; simp only [xbin, hb, cond_true]) fun w I ρ => ⟨_, ?_, FR.str_mk⟩
      have hm : ¬ (((⟨a.toArray⟩ : ByteArray).size + (⟨b.toArray⟩ : ByteArray).size : Nat) : Int) > IntKind.i64.max := by
        rw [size_mk, size_mk]
        have : IntKind.i64.max = 9223372036854775807 := by decide
        rw [this]; unfold LIM at hb'; omega
      simp only [Op.stringOp, hm, if_false, append_mk, Sem.run_pure]
    case h_2 => exact mk h (fun k' => by rw [hloc0]; simp [xbin]) fun w I ρ => ⟨_, by simp [Op.stringOp]; rfl, by rw [beq_list]; exact FR.bool_mk⟩
    case h_3 => exact mk h (fun k' => by rw [hloc0]; simp [xbin]) fun w I ρ => ⟨_, by simp [Op.stringOp]; rfl, by rw [beq_list]; exact FR.bool_mk⟩
    case h_4 => exact mk h (fun k' => by rw [hloc0]; simp [xbin]) fun w I ρ => ⟨_, by simp [Op.stringOp]; rfl, FR.bool_mk⟩
    case h_5 => exact mk h (fun k' => by rw [hloc0]; simp [xbin]) fun w I ρ => ⟨_, by simp [Op.stringOp]; rfl, by rw [beq_list]; exact FR.bool_mk⟩
    case h_6 => exact mk h (fun k' => by rw [hloc0]; simp [xbin]) fun w I ρ => ⟨_, by simp [Op.stringOp]; rfl, by rw [beq_list]; simp only [strLt, Bool.not_or]; exact FR.bool_mk⟩
    case h_7 => exact mk h (fun k' => by rw [hloc0]; simp [xbin]) fun w I ρ => ⟨_, by simp [Op.stringOp]; rfl, FR.bool_mk⟩
    case h_8 => cases h
  case h_3 x' y' hn1 hn2 =>
    split at h
    case h_2 => cases h
    case h_1 ti ht =>
    obtain ⟨b, τ, hk, hloc, hat⟩ := xeq_inv (G := G) (H0 := H0) hE ht h
    have hyc : y = .const .nilIface ∨ isNilIf y = false := by
      unfold isNilIf; split
      · exact .inl rfl
      · exact .inr rfl
    have hshape : ∀ (look' : Look) (k' : KOp R), xbin E op t (isNilIf y) look' (σ x) (σ y) (fun v d => k' v [] d) =
        xeq ti (isNilIf y) look' (σ x) (σ y) fun b d => match op with
          | .eql => k' (.pv .bool b) [] d
          | .neq => k' (.pv .bool (!b)) [] d
          | _ => none := fun look' k' => by
      unfold xbin
      split
      · rename_i e1 e2; exact absurd e2 (hn1 _ _ _ _ e1)
      · rename_i e1 e2; exact absurd e2 (hn2 _ _ e1)
      · first | (simp only [ht]; done) | (simp only [ht]; rfl)
    cases op with
    | eql =>
      refine ⟨_, _, _, hk, fun σ' look' hσ hlk k' => ?_, Sound.calm fun o ac w I ρ ho hre hr => ?_⟩
      · obtain ⟨e1, e2⟩ := ha σ' hσ
        simp only [xop, e1, e2]
        rw [hshape, hloc look' hlk]
      · obtain ⟨h1, h2, h3, h4⟩ := hat w I ρ _ _ hre (hr x) (hr y)
        refine ⟨.bool b, ?_, FR.bool_mk⟩
        simp only [execOp, ho, Sem.run_bind, h2 _ x y hyc, h3, h1, Result.andThen_ok, Sem.run_pure]
    | neq =>
      refine ⟨_, _, _, hk, fun σ' look' hσ hlk k' => ?_, Sound.calm fun o ac w I ρ ho hre hr => ?_⟩
      · obtain ⟨e1, e2⟩ := ha σ' hσ
        simp only [xop, e1, e2]
        rw [hshape, hloc look' hlk]
      · obtain ⟨h1, h2, h3, h4⟩ := hat w I ρ _ _ hre (hr x) (hr y)
        refine ⟨.bool (!b), ?_, FR.bool_mk⟩
        simp only [execOp, ho, Sem.run_bind, h2 _ x y hyc, h4, h1, Result.andThen_ok, Sem.run_pure]
    | _ => cases hk
end
end Go.AM
