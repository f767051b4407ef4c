/- A small language for what the Go code does over abstract heaps, its steps, and the check that a text of it stands for the Go code. -/
import Derived.Test.YtdkdifjjpbfohaaFw1
import Derived.Laws.Bits
import Derived.Laws.Entries
import Derived.Laws.Strings
namespace Go.Proofs.Ytdkdifjjpbfohaa.Fw
open Go

/-! ### Operands and operations -/
inductive Opd where
  | t (n : Nat)
  | c (v : Value)
def Opd.ev (env : Nat → Value) : Opd → Value
  | .t n => env n
  | .c v => v

inductive IOp where
  | mv (x : Opd)
  | pick (c a b : Opd)
  | bin (op : BinOp) (x y : Opd)
  | un (op : UnOp) (x : Opd)
  | eqb (neg : Bool) (x y : Opd)
  | eqn (kd : Nat) (neg : Bool) (x y : Opd)
  | eqs (ks : List Nat) (neg : Bool) (x y : Opd)
  | conv (k : IntKind) (x : Opd)
  | cvs (x : Opd)
  | b2s (x : Opd)
  | s2b (x : Opd)
  | alloc (u : Nat) (z : List Value)
  | box (u : Nat) (x : Opd)
  | load (x : Opd)
  | loadN (n : Nat) (x : Opd)
  | store (n : Nat) (x v : Opd)
  | fa (off : Nat) (x : Opd)
  | fld (off : Nat) (n : Option Nat) (x : Opd)
  | ixa (n : Nat) (x i : Opd)
  | ixr (len n : Nat) (x i : Opd)
  | ixs (x i : Opd)
  | sle (n : Nat) (x : Opd) (lo hi mx : Option Opd)
  | slr (len n : Nat) (x : Opd) (lo hi : Option Opd)
  | sls (x : Opd) (lo hi : Option Opd)
  | len (kd : Nat) (x : Opd)
  | app (n eb : Nat) (x y : Opd)
  | appz (eb : Nat) (z : Value) (x y : Opd)
  | appf (n eb : Nat) (x y : Opd)
  | cpy (n eb : Nat) (y : Opd)
  | bsl (n len : Nat) (z : List Value) (parts : List (Nat × Opd))
  | bld (z : List Value) (parts : List (Nat × Nat × Opd))
  | mks (eb : Nat) (z : Value) (x y : Opd)
  | ext (x : Opd) (i : Nat)
  | nilc (x : Opd)
  | mki (t : Nat) (x : Opd)
  | mkf (f : Nat) (first captured : List Opd)
  | mx (x y : Opd)
  | mn (x y : Opd)
  | call (f : Nat) (args : List Opd)
  | callc (f : Nat) (args : List Opd)
  | calll (f : Nat) (args : List Opd)
  | callf (f : Nat) (args : List Opd)
  | mvf (x : Opd)
  | bsli (n len : Nat) (z : List Value) (parts : List (Nat × Opd))
  | bsle
  | bslz (n : Nat)
  | s2bi (x : Opd)
  | cvsl (x : Opd)
  | cvslf (x : Opd)
  | rng (x : Opd)
  | nxt (x : Opd)
  | mkm
  | lku (kd : Nat) (ag ok : Bool) (z : List Value) (x k : Opd)
  | mup (kd : Nat) (x k v : Opd)
  | callv (f : Opd) (args : List Opd)

structure IStmt where
  dst : Option Nat
  op : IOp
  guard : Option (Nat × Bool)

/-! ### The steps -/
def bt (s : ByteArray) (i : Int) : Int := ((s.data.toList.getD i.toNat 0).toNat : Int)
def pickV (t : Bool) : Value → Value → Value
  | .bool x, .bool y => .bool (bif t then x else y)
  | a, b => bif t then a else b
def strEq (x y : ByteArray) : Bool := x.data.toList == y.data.toList
def strLt (x y : ByteArray) : Bool := Op.bytesLess x.data.toList y.data.toList
def kN : IntKind → Nat
  | .i8 => 0 | .i16 => 1 | .i32 => 2 | .i64 => 3 | .u8 => 4 | .u16 => 5 | .u32 => 6 | .u64 => 7
theorem kN_inj {a b : IntKind} (h : Nat.beq (kN a) (kN b) = true) : a = b := by
  have h := Nat.eq_of_beq_eq_true h
  cases a <;> cases b <;> first | rfl | (simp [kN] at h)

def binI (op : BinOp) (k : IntKind) (a b : Int) : Option Value :=
  match op with
  | .add => some (.int k (k.wrap (a + b)))
  | .sub => some (.int k (k.wrap (a - b)))
  | .mul => some (.int k (k.wrap (a * b)))
  | .quo => if b = 0 then none else some (.int k (k.wrap (a.tdiv b)))
  | .rem => if b = 0 then none else some (.int k (a.tmod b))
  | .and => some (.int k (Go.bits .and k a b))
  | .or => some (.int k (Go.bits .or k a b))
  | .xor => some (.int k (Go.bits .xor k a b))
  | .andNot => some (.int k (Go.bits .andNot k a b))
  | .eql => some (.bool (decide (a = b)))
  | .neq => some (.bool (!decide (a = b)))
  | .lss => some (.bool (decide (a < b)))
  | .leq => some (.bool (decide (a ≤ b)))
  | .gtr => some (.bool (decide (b < a)))
  | .geq => some (.bool (decide (b ≤ a)))
  | _ => none
def shV (op : BinOp) (k : IntKind) (a b : Int) : Option Value :=
  match op with
  | .shl => if b < 0 then none else some (.int k (k.wrap (a * 2 ^ (min b.toNat k.bits))))
  | _ => if b < 0 then none else some (.int k (a.fdiv (2 ^ (min b.toNat k.bits))))
def binS (op : BinOp) (a b : ByteArray) : Option Value :=
  match op with
  | .add => if a.size + b.size ≤ 9223372036854775807 then some (.string (a ++ b)) else none
  | .eql => some (.bool (strEq a b))
  | .neq => some (.bool (!strEq a b))
  | .lss => some (.bool (strLt a b))
  | .leq => some (.bool (strLt a b || strEq a b))
  | .gtr => some (.bool (!(strLt a b || strEq a b)))
  | .geq => some (.bool (!strLt a b))
  | _ => none
def binV (op : BinOp) (x y : Value) : Option Value :=
  match x, y with
  | .int k a, .int k' b =>
    match op with
    | .shl => shV .shl k a b
    | .shr => shV .shr k a b
    | op => bif Nat.beq (kN k) (kN k') then binI op k a b else none
  | .string a, .string b => binS op a b
  | _, _ => none
def unV (op : UnOp) (x : Value) : Option Value :=
  match op, x with
  | .neg, .int k n => some (.int k (k.wrap (0 - n)))
  | .xor, .int k n => some (.int k (Go.bits .xor k (if k.signed then -1 else k.max) n))
  | .not, .bool b => some (.bool (!b))
  | _, _ => none
/-- Is a value of a kind (pointer, slice, map, function, interface) nil? -/
def isNil (kd : Nat) (v : Value) : Option Bool :=
  match v with
  | .pointer none => bif Nat.beq kd 0 then some true else none
  | .pointer (some _) => bif Nat.beq kd 0 then some false else none
  | .slice none _ _ => bif Nat.beq kd 1 then some true else none
  | .slice (some _) _ _ => bif Nat.beq kd 1 then some false else none
  | .map none => bif Nat.beq kd 2 then some true else none
  | .map (some _) => bif Nat.beq kd 2 then some false else none
  | .nilFunc => bif Nat.beq kd 3 then some true else none
  | .func (.func _) _ _ => bif Nat.beq kd 3 then some false else none
  | .func (.yield _) _ _ => bif Nat.beq kd 1 then some false else none
  | .func (.methodOf _ _) _ _ => bif Nat.beq kd 0 then some false else none
  | .nilIface => bif Nat.beq kd 4 then some true else none
  | .iface _ _ => bif Nat.beq kd 4 then some false else none
  | _ => none
/-- The same of the world's own values. -/
def isNilR (kd : Nat) (v : Value) : Option Bool :=
  match v with
  | .pointer none => bif Nat.beq kd 0 then some true else none
  | .pointer (some _) => bif Nat.beq kd 0 then some false else none
  | .slice none _ _ => bif Nat.beq kd 1 then some true else none
  | .slice (some _) _ _ => bif Nat.beq kd 1 then some false else none
  | .map none => bif Nat.beq kd 2 then some true else none
  | .map (some _) => bif Nat.beq kd 2 then some false else none
  | .nilFunc => bif Nat.beq kd 3 then some true else none
  | .func _ _ _ => bif Nat.beq kd 3 then some false else none
  | .nilIface => bif Nat.beq kd 4 then some true else none
  | .iface _ _ => bif Nat.beq kd 4 then some false else none
  | _ => none
/-- Cells that are held against each other: whole numbers (0), bools (1), strings (2). -/
def cellEq (kd : Nat) : Value → Value → Option Bool
  | .int k a, .int k' b => bif Nat.beq kd 0 && Nat.beq (kN k) (kN k') then some (decide (a = b)) else none
  | .bool a, .bool b => bif Nat.beq kd 1 then some (a == b) else none
  | .string a, .string b => bif Nat.beq kd 2 then some (strEq a b) else none
  | _, _ => none
def cellsEq : List Nat → List Value → List Value → Option Bool
  | [], [], [] => some true
  | k :: ks, a :: x, b :: y =>
    match cellEq k a b, cellsEq ks x y with
    | some p, some q => some (p && q)
    | _, _ => none
  | _, _, _ => none

def lk (H : Heap) (a : Addr) : Option Entry :=
  match H[a.block]? with
  | some e => bif Nat.beq e.tag (tagOf a.spot) then some e else none
  | none => none
/-- So many cells from a place on. -/
def rdN : List Value → Nat → Option (List Value)
  | _, 0 => some []
  | [], _ + 1 => none
  | x :: l, n + 1 => (rdN l n).map (x :: ·)
/-- Cells laid over others. -/
def spl (cs : List Value) (off : Nat) : List Value → List Value
  | [] => cs
  | v :: vs => spl (cs.set off v) (off + 1) vs
def cellsAt (H : Heap) (a : Addr) : Option (List Value) :=
  match lk H a with
  | some ⟨_, .cells _ _ cs⟩ => some (cs.drop a.off)
  | _ => none
def strOf : List Value → Option (List UInt8)
  | [] => some []
  | .int .u8 n :: l => (strOf l).map (UInt8.ofNat n.toNat :: ·)
  | _ => none
def bytesV (s : ByteArray) : List Value := s.data.toList.map fun b => .int .u8 b.toNat
/-- What is appended: the cells, and how many elements. -/
def srcOf (H : Heap) (n : Nat) : Value → Option (List Value × Nat)
  | .slice none m _ => bif Nat.beq m 0 then some ([], 0) else none
  | .slice (some a) m _ =>
    match cellsAt H a with
    | some cs => (rdN cs (m * n)).map (·, m)
    | none => none
  | .string s => bif Nat.beq n 1 then some (bytesV s, s.size) else none
  | .func (.yield m) _ cs => (rdN cs.toList (m * n)).map (·, m)
  | _ => none
def appV (n eb : Nat) (H : Heap) (x : Value) (src : List Value) (m : Nat) : Option (Value × Heap) :=
  match x with
  | .slice none l c => bif Nat.beq l 0 && Nat.beq c 0 then (bif Nat.beq m 0 then some (.slice none 0 0, H) else
      if m * eb ≤ 140737488355328 then some (.slice (some ⟨H.length, 0, none⟩) m m, H ++ [⟨0, .cells false n src⟩]) else none) else none
  | .slice (some a) l _ =>
    match lk H a with
    | some ⟨tag, .cells false u cs⟩ =>
      if u = n ∧ a.off + l * n = cs.length ∧ (l + m) * eb ≤ 140737488355328 then
        some (.slice (some ⟨a.block, 0, spotOf (tag + 1)⟩) (l + m) (l + m), H.set a.block ⟨tag + 1, .cells false u (cs.drop a.off ++ src)⟩)
      else none
    | _ => none
  | _ => none
def iV (v : Value) : Option Int :=
  match v with
  | .int _ i => some i
  | _ => none
def optI (env : Nat → Value) (d : Int) : Option Opd → Option Int
  | none => some d
  | some x => iV (x.ev env)
def evs (env : Nat → Value) (l : List Opd) : List Value := l.map (Opd.ev env)
/-- The cells of a struct or an array, out of its parts: place, size, value. -/
def fillL : List Value → List (Nat × Nat × Value) → Option (List Value)
  | cells, [] => some cells
  | cells, (off, size, v) :: rest =>
    bif Nat.beq v.cells.size size && Nat.ble (off + size) cells.length then fillL (spl cells off v.cells.toList) rest else none
def zr (len : Nat) (z : List Value) : List Value := (List.replicate len z).flatten

def oneAll (v : Value) : Bool := v.cells.all oneC

/-- A slice, and a place in one, whose cells don't change any more. -/
abbrev immV (n : Nat) (cs : List Value) : Value := .func (.yield n) #[] cs.toArray
abbrev iptrV (cs : List Value) : Value := .func (.methodOf 0 "") #[] cs.toArray

def b2sI (H : Heap) : Value → Option (Value × Heap)
  | .slice none n _ => bif Nat.beq n 0 then some (.string ⟨#[]⟩, H) else none
  | .slice (some a) n _ =>
    match cellsAt H a with
    | some cs => ((rdN cs n).bind strOf).map fun l => (.string ⟨l.toArray⟩, H)
    | none => none
  | .func (.yield n) _ cs => ((rdN cs.toList n).bind strOf).map fun l => (.string ⟨l.toArray⟩, H)
  | _ => none
def loadI (H : Heap) : Value → Option (Value × Heap)
  | .pointer (some a) =>
    match cellsAt H a with
    | some (v :: _) => some (v, H)
    | _ => none
  | .func (.methodOf _ _) _ cs =>
    match cs.toList with
    | v :: _ => some (v, H)
    | _ => none
  | _ => none
def loadNI (H : Heap) (n : Nat) : Value → Option (Value × Heap)
  | .pointer (some a) =>
    match cellsAt H a with
    | some cs => (rdN cs n).map fun l => (.agg l.toArray, H)
    | _ => none
  | .func (.methodOf _ _) _ cs => (rdN cs.toList n).map fun l => (.agg l.toArray, H)
  | _ => none
def faI (H : Heap) (off : Nat) : Value → Option (Value × Heap)
  | .pointer (some a) => some (.pointer (some ⟨a.block, a.off + off, a.spot⟩), H)
  | .func (.methodOf _ _) _ cs => some (iptrV (cs.toList.drop off), H)
  | _ => none
def ixaI (H : Heap) (n : Nat) (x i : Value) : Option (Value × Heap) :=
  match x, i with
  | .slice (some a) l _, .int _ j => if 0 ≤ j ∧ j < l then some (.pointer (some ⟨a.block, a.off + j.toNat * n, a.spot⟩), H) else none
  | .func (.yield l) _ cs, .int _ j => if 0 ≤ j ∧ j < l then some (iptrV (cs.toList.drop (j.toNat * n)), H) else none
  | _, _ => none
def optB (env : Nat → Value) : Option Opd → Option Value
  | none => none
  | some x => some (x.ev env)
def optJ (d : Int) : Option Value → Option Int
  | none => some d
  | some v => iV v
def sleI (H : Heap) (n : Nat) (x : Value) (lo hi mx : Option Value) : Option (Value × Heap) :=
  match x with
  | .slice (some a) l c =>
    match optJ 0 lo, optJ l hi, optJ c mx with
    | some i, some j, some k =>
      match lk H a with
      | some ⟨_, .cells ro u _⟩ => bif ro || Nat.beq u n then (if 0 ≤ i ∧ i ≤ j ∧ j ≤ k ∧ k ≤ c then
          some (.slice (some ⟨a.block, a.off + i.toNat * n, a.spot⟩) (j.toNat - i.toNat) (k.toNat - i.toNat), H) else none) else none
      | _ => none
    | _, _, _ => none
  | .slice none l c =>
    match optJ 0 lo, optJ 0 hi, optJ 0 mx with
    | some i, some j, some k => bif Nat.beq l 0 && Nat.beq c 0 then (if i = 0 ∧ j = 0 ∧ k = 0 then some (.slice none 0 0, H) else none) else none
    | _, _, _ => none
  | .func (.yield l) _ cs =>
    match optJ 0 lo, optJ l hi, optJ l mx with
    | some i, some j, some k => if 0 ≤ i ∧ i ≤ j ∧ j ≤ k ∧ k ≤ l then some (immV (j.toNat - i.toNat) ((cs.toList.drop (i.toNat * n)).take ((j.toNat - i.toNat) * n)), H) else none
    | _, _, _ => none
  | _ => none
def lenI (H : Heap) (kd : Nat) : Value → Option (Value × Heap)
  | .slice _ n _ => bif Nat.beq kd 1 then some (.int .i64 n, H) else none
  | .func (.yield n) _ _ => bif Nat.beq kd 1 then some (.int .i64 n, H) else none
  | .string s => bif Nat.beq kd 0 then some (.int .i64 s.size, H) else none
  | .map none => bif Nat.beq kd 2 then some (.int .i64 0, H) else none
  | .map (some r) =>
    match H[r]? with
    | some ⟨_, .map kv⟩ => bif Nat.beq kd 2 then some (.int .i64 kv.length, H) else none
    | _ => none
  | _ => none

/-- No address of a heap in a value. -/
def pureV : Nat → Value → Bool
  | 0, v => plainV v
  | k + 1, v =>
    match v with
    | .func (.yield _) _ cs => cs.toList.all (pureV k)
    | .agg cs => cs.toList.all (pureV k)
    | .tuple cs => cs.toList.all (pureV k)
    | .iface _ x => pureV k x
    | v => plainV v
/-- No address at all in a value. -/
def flatV : Nat → Value → Bool
  | 0, v => plainV v
  | k + 1, v =>
    match v with
    | .agg cs => cs.toList.all (flatV k)
    | .tuple cs => cs.toList.all (flatV k)
    | .iface _ x => flatV k x
    | v => plainV v
/-- A value with all that it leads to, for good. -/
def frz : Nat → Heap → Value → Option Value
  | 0, _, v => bif pureV 0 v then some v else none
  | k + 1, H, v => bif pureV (k + 1) v then some v else
    match v with
    | .slice (some a) n _ =>
      match lk H a with
      | some ⟨_, .cells false u cs⟩ => ((rdN (cs.drop a.off) (n * u)).bind fun l => l.mapM (frz k H)).map fun l => immV n l
      | _ => none
    | .agg cs => (cs.toList.mapM (frz k H)).map fun l => .agg l.toArray
    | .tuple cs => (cs.toList.mapM (frz k H)).map fun l => .tuple l.toArray
    | .iface t x => (frz k H x).map (.iface t)
    | _ => none

/-- A slice becomes one that doesn't change any more. -/
def fzV (H : Heap) (v : Value) : Option (Value × Heap) :=
  bif pureV 7 v then some (v, H) else
    match v with
    | .slice (some a) n _ =>
      match lk H a with
      | some ⟨tag, .cells false u cs⟩ => (rdN (cs.drop a.off) (n * u)).bind fun l => bif l.all (pureV 6) then some (immV n l, H.set a.block ⟨tag + 1, .dead⟩) else none
      | _ => none
    | _ => none
def fzL (H : Heap) : List Value → Option (List Value × Heap)
  | [] => some ([], H)
  | v :: l => (fzV H v).bind fun r => (fzL r.2 l).map fun q => (r.1 :: q.1, q.2)
def fzA (H : Heap) (v : Value) : Option (Value × Heap) :=
  match v with
  | .tuple vs => (fzL H vs.toList).map fun q => (.tuple q.1.toArray, q.2)
  | v => fzV H v
/-- Entries of maps. -/
def kFind (kd : Nat) (k : Value) : List (Value × Value) → Nat → Option (Option (Nat × Value))
  | [], _ => some none
  | (q, x) :: l, i =>
    match cellEq kd k q with
    | some true => some (some (i, x))
    | some false => kFind kd k l (i + 1)
    | none => none
def zOf (ag : Bool) (z : List Value) : Value := bif ag then .agg z.toArray else z.headD undef
def okV (ok : Bool) (v : Value) (b : Bool) : Value := bif ok then .tuple #[v, .bool b] else v
def lkuI (H : Heap) (kd : Nat) (ok : Bool) (z x k : Value) : Option (Value × Heap) :=
  match x with
  | .map none => some (okV ok z false, H)
  | .map (some r) =>
    match H[r]? with
    | some ⟨_, .map kv⟩ =>
      match kFind kd k kv 0 with
      | some (some (_, v)) => some (okV ok v true, H)
      | some none => some (okV ok z false, H)
      | none => none
    | _ => none
  | _ => none
def mupI (H : Heap) (kd : Nat) (x k v : Value) : Option (Value × Heap) :=
  match x with
  | .map (some r) =>
    match H[r]? with
    | some ⟨tag, .map kv⟩ =>
      match kFind kd k kv 0 with
      | some (some (i, _)) => some (.tuple #[], H.set r ⟨tag, .map (kv.set i (k, v))⟩)
      | some none => some (.tuple #[], H.set r ⟨tag, .map (kv ++ [(k, v)])⟩)
      | none => none
    | _ => none
  | _ => none
def cvslI (H : Heap) (v : Value) : Option (Value × Heap) :=
  match v with
  | .slice (some a) n c =>
    match lk H a with
    | some ⟨_, .cells false _ _⟩ => bif Nat.beq n 0 then none else some (.slice (some a) n c, H)
    | _ => none
  | _ => none
def nxtI (H : Heap) (v : Value) : Option (Value × Heap) :=
  match v with
  | .pointer (some a) =>
    match lk H a with
    | some ⟨tag, .iter s p⟩ => bif Nat.beq a.off 0 then (if p < s.size then some (.tuple #[.bool true, .int .i64 p, .int .i32 (Utf8.decode s p).1], H.set a.block ⟨tag, .iter s (p + (Utf8.decode s p).2)⟩)
        else some (.tuple #[.bool false], H)) else none
    | _ => none
  | _ => none

/-- A copy, for good. -/
def cpyI (H : Heap) (n eb : Nat) (y : Value) : Option (Value × Heap) :=
  match srcOf H n y with
  | some (src, m) => bif Nat.beq m 0 then some (.slice none 0 0, H) else if m * eb ≤ 140737488355328 then some (immV m src, H) else none
  | none => none

def stepI (env : Nat → Value) (H : Heap) : IOp → Option (Value × Heap)
  | .mv x => some (x.ev env, H)
  | .pick c a b =>
    match c.ev env with
    | .bool t => some (pickV t (a.ev env) (b.ev env), H)
    | _ => none
  | .bin op x y => (binV op (x.ev env) (y.ev env)).map (·, H)
  | .un op x => (unV op (x.ev env)).map (·, H)
  | .eqb neg x y =>
    match x.ev env, y.ev env with
    | .bool a, .bool b => some (.bool (bif neg then a != b else a == b), H)
    | _, _ => none
  | .eqn kd neg x y =>
    match isNil kd (x.ev env), isNil kd (y.ev env) with
    | some a, some b => bif a || b then some (.bool (bif neg then !(a && b) else a && b), H) else none
    | _, _ => none
  | .eqs ks neg x y =>
    match x.ev env, y.ev env with
    | .agg a, .agg b => (cellsEq ks a.toList b.toList).map fun r => (.bool (bif neg then !r else r), H)
    | _, _ => none
  | .conv k x =>
    match x.ev env with
    | .int _ n => some (.int k (k.wrap n), H)
    | _ => none
  | .cvs x =>
    match x.ev env with
    | .string s => some (.string s, H)
    | _ => none
  | .b2s x => b2sI H (x.ev env)
  | .s2b x =>
    match x.ev env with
    | .string s => some (.slice (some ⟨H.length, 0, none⟩) s.size s.size, H ++ [⟨0, .cells false 1 (bytesV s)⟩])
    | _ => none
  | .alloc u z => some (.pointer (some ⟨H.length, 0, none⟩), H ++ [⟨0, .cells false u z⟩])
  | .box u x => bif oneAll (x.ev env) then some (.pointer (some ⟨H.length, 0, none⟩), H ++ [⟨0, .cells false u (x.ev env).cells.toList⟩]) else none
  | .load x => loadI H (x.ev env)
  | .loadN n x => loadNI H n (x.ev env)
  | .store n x v =>
    match x.ev env with
    | .pointer (some a) =>
      match lk H a with
      | some ⟨tag, .cells false u cs⟩ =>
        bif Nat.beq (v.ev env).cells.size n && Nat.ble (a.off + n) cs.length && oneAll (v.ev env) then
          some (.tuple #[], H.set a.block ⟨tag, .cells false u (spl cs a.off (v.ev env).cells.toList)⟩) else none
      | _ => none
    | _ => none
  | .fa off x => faI H off (x.ev env)
  | .fld off n x =>
    match x.ev env with
    | .agg cs =>
      match n with
      | none => (cs.toList[off]?).map (·, H)
      | some n => some (.agg ((cs.toList.drop off).take n).toArray, H)
    | _ => none
  | .ixa n x i => ixaI H n (x.ev env) (i.ev env)
  | .ixr len n x i =>
    match x.ev env, i.ev env with
    | .pointer (some a), .int _ j => if 0 ≤ j ∧ j < len then some (.pointer (some ⟨a.block, a.off + j.toNat * n, a.spot⟩), H) else none
    | _, _ => none
  | .ixs x i =>
    match x.ev env, i.ev env with
    | .string s, .int _ j => if 0 ≤ j ∧ j < s.size then some (.int .u8 (bt s j), H) else none
    | _, _ => none
  | .sle n x lo hi mx => sleI H n (x.ev env) (optB env lo) (optB env hi) (optB env mx)
  | .slr len n x lo hi =>
    match x.ev env with
    | .pointer (some a) =>
      match optI env 0 lo, optI env len hi with
      | some i, some j =>
        match lk H a with
        | some ⟨_, .cells ro u cs⟩ => bif ro || Nat.beq u n && Nat.beq a.off 0 && Nat.beq cs.length (len * n) then (if 0 ≤ i ∧ i ≤ j ∧ j ≤ len then
            some (.slice (some ⟨a.block, a.off + i.toNat * n, a.spot⟩) (j.toNat - i.toNat) (len - i.toNat), H) else none) else none
        | _ => none
      | _, _ => none
    | _ => none
  | .sls x lo hi =>
    match x.ev env with
    | .string s =>
      match optI env 0 lo, optI env s.size hi with
      | some i, some j => if 0 ≤ i ∧ i ≤ j ∧ j ≤ s.size then some (.string (s.extract i.toNat j.toNat), H) else none
      | _, _ => none
    | _ => none
  | .len kd x => lenI H kd (x.ev env)
  | .app n eb x y =>
    match srcOf H n (y.ev env) with
    | some (src, m) => appV n eb H (x.ev env) src m
    | none => none
  | .appf n eb x y =>
    match srcOf H n (y.ev env) with
    | some (src, m) => (appV n eb H (x.ev env) src m).bind fun r => fzV r.2 r.1
    | none => none
  | .cpy n eb y => cpyI H n eb (y.ev env)
  | .appz eb z x y =>
    match y.ev env with
    | .int _ m => if 0 ≤ m ∧ m * eb ≤ 281474976710656 then appV 1 eb H (x.ev env) (List.replicate m.toNat z) m.toNat else none
    | _ => none
  | .bsl n len z parts =>
    (fillL (zr len z) (parts.map fun (i, x) => (i * n, n, x.ev env))).bind fun cs =>
      bif cs.all oneC then some (.slice (some ⟨H.length, 0, none⟩) len len, H ++ [⟨0, .cells false n cs⟩]) else none
  | .bld z parts => (fillL z (parts.map fun (o, s, x) => (o, s, x.ev env))).map fun cs => (.agg cs.toArray, H)
  | .mks eb z x y =>
    match x.ev env, y.ev env with
    | .int _ l, .int _ c => if 0 ≤ l ∧ l ≤ c ∧ c * eb ≤ 281474976710656 then
        some (.slice (some ⟨H.length, 0, none⟩) l.toNat c.toNat, H ++ [⟨0, .cells false 1 (List.replicate c.toNat z)⟩]) else none
    | _, _ => none
  | .ext x i =>
    match x.ev env with
    | .tuple vs => (vs.toList[i]?).map (·, H)
    | _ => none
  | .nilc x =>
    match x.ev env with
    | .pointer (some a) => some (.pointer (some a), H)
    | _ => none
  | .mki t x => some (.iface t (x.ev env), H)
  | .mkf f first captured => some (.func (.func f) (evs env first).toArray (evs env captured).toArray, H)
  | .mx x y =>
    match x.ev env, y.ev env with
    | .int k a, .int _ b => some (.int k (if b > a then b else a), H)
    | _, _ => none
  | .mn x y =>
    match x.ev env, y.ev env with
    | .int k a, .int _ b => some (.int k (if b < a then b else a), H)
    | _, _ => none
  | .call _ _ => none
  | .callc _ _ => none
  | .calll _ _ => none
  | .callf _ _ => none
  | .mvf x => fzV H (x.ev env)
  | .bsli n len z parts =>
    (fillL (zr len z) (parts.map fun (i, x) => (i * n, n, x.ev env))).bind fun cs => bif cs.all oneC then some (immV len cs, H) else none
  | .bsle => some (immV 0 [], H)
  | .bslz n => some (.slice (some ⟨H.length, 0, none⟩) 0 0, H ++ [⟨0, .cells false n []⟩])
  | .s2bi x =>
    match x.ev env with
    | .string s => some (immV s.size (bytesV s), H)
    | _ => none
  | .cvsl x => cvslI H (x.ev env)
  | .cvslf x => (cvslI H (x.ev env)).bind fun r => fzV r.2 r.1
  | .rng x =>
    match x.ev env with
    | .string s => some (.pointer (some ⟨H.length, 0, none⟩), H ++ [⟨0, .iter s 0⟩])
    | _ => none
  | .nxt x => nxtI H (x.ev env)
  | .mkm => some (.map (some H.length), H ++ [⟨0, .map []⟩])
  | .lku kd ag ok z x k => lkuI H kd ok (zOf ag z) (x.ev env) (k.ev env)
  | .mup kd x k v => mupI H kd (x.ev env) (k.ev env) (v.ev env)
  | .callv _ _ => none

/-! ### The check -/
def sameC : Value → Value → Bool
  | .bool a, .bool b => a == b
  | .int k a, .int k' b => Nat.beq (kN k) (kN k') && decide (a = b)
  | .string a, .string b => strEq a b
  | .pointer none, .pointer none => true
  | .map none, .map none => true
  | .nilFunc, .nilFunc => true
  | .nilIface, .nilIface => true
  | .slice none a b, .slice none c d => Nat.beq a c && Nat.beq b d
  | .tuple a, .tuple b => Nat.beq a.size 0 && Nat.beq b.size 0
  | .func (.func f) a b, .func (.func g) c d => Nat.beq f g && Nat.beq a.size 0 && Nat.beq b.size 0 && Nat.beq c.size 0 && Nat.beq d.size 0
  | _, _ => false
def sameL : List Value → List Value → Bool
  | [], [] => true
  | a :: x, b :: y => sameC a b && sameL x y
  | _, _ => false
def sameZ (zv : Value) (ag : Bool) (z : List Value) : Bool :=
  match ag, z with
  | true, z => (match zv with | .agg cs => sameL cs.toList z | _ => false)
  | false, [u] => sameC zv u
  | _, _ => false
def isNilC : Operand → Bool
  | .const (.slice none 0 0) => true
  | _ => false
def chkO (nt : Nat) (o : Operand) (x : Opd) : Bool :=
  match o, x with
  | .tmp t, .t n => Nat.beq t n && Nat.blt t nt
  | .const v, .c u => sameC v u
  | .func f, .c u => sameC (.func (.func f) #[] #[]) u
  | _, _ => false
def chkOs (nt : Nat) : List Operand → List Opd → Bool
  | [], [] => true
  | o :: l, x :: m => chkO nt o x && chkOs nt l m
  | _, _ => false
def chkOpt (nt : Nat) : Option Operand → Option Opd → Bool
  | none, none => true
  | some o, some x => chkO nt o x
  | _, _ => false
def tyAgg (P : Program) (t : TypeId) : Option Bool :=
  match P.underlying t with
  | some (.struct _) | some (.array _ _) => some true
  | some _ => some false
  | none => none
def plainK (P : Program) (t : TypeId) : Option Nat :=
  match P.underlying t with
  | some (.int _) => some 0
  | some .bool => some 1
  | some .string => some 2
  | _ => none
def nilT (P : Program) (t : TypeId) : Option Nat :=
  match P.underlying t with
  | some (.pointer _) => some 0
  | some (.slice _) => some 1
  | some (.map _ _) => some 2
  | some (.func _ _ _) => some 3
  | some (.interface _) => some 4
  | _ => none
def lenK (P : Program) (t : TypeId) : Option Nat :=
  match P.underlying t with
  | some .string => some 0
  | some (.slice _) => some 1
  | some (.map _ _) => some 2
  | _ => none
def elemT (P : Program) (t : TypeId) : Option TypeId :=
  match P.underlying t with
  | some (.slice e) => some e
  | _ => none
/-- The zero cells of a type. -/
def zeroT (P : Program) (t : TypeId) : Option (List Value) := ((P.info? t).bind (·.zero)).map (·.cells.toList)
def bOp (op : BinOp) : Bool :=
  match op with
  | .eql | .neq => true
  | _ => false
def opEq (a b : BinOp) : Bool :=
  match a, b with
  | .add, .add | .sub, .sub | .mul, .mul | .quo, .quo | .rem, .rem | .and, .and | .or, .or | .xor, .xor | .shl, .shl | .shr, .shr | .andNot, .andNot
  | .eql, .eql | .neq, .neq | .lss, .lss | .leq, .leq | .gtr, .gtr | .geq, .geq => true
  | _, _ => false
theorem opEq_eq {a b : BinOp} (h : opEq a b = true) : a = b := by cases a <;> cases b <;> first | rfl | (simp [opEq] at h)
def eqOp (neg : Bool) (op : BinOp) : Bool :=
  match op with
  | .eql => !neg
  | .neq => neg
  | _ => false
/-- Fields that are whole numbers, bools and strings, one cell each, in order. -/
def plainFs (P : Program) : List Field → Nat → List Nat → Bool
  | [], _, [] => true
  | f :: fs, i, k :: ks => plainK P f.type == some k && f.offset == i && f.name != "_" && plainFs P fs (i + 1) ks
  | _, _, _ => false
def plainS (P : Program) (t : TypeId) (ks : List Nat) : Bool :=
  match P.underlying t with
  | some (.struct fs) => plainFs P fs.toList 0 ks && !P.stoodInHeld t && !P.eqGuardType P.depth t
  | _ => false
def chkParts (nt : Nat) (f : Nat → Option (Nat × Nat)) : List (Nat × Operand) → List (Nat × Nat × Opd) → Bool
  | [], [] => true
  | (i, o) :: l, (a, s, x) :: m => (f i == some (a, s)) && chkO nt o x && chkParts nt f l m
  | _, _ => false
def chkPartsS (nt : Nat) : List (Nat × Operand) → List (Nat × Opd) → Bool
  | [], [] => true
  | (i, o) :: l, (j, x) :: m => Nat.beq i j && chkO nt o x && chkPartsS nt l m
  | _, _ => false
def bodied (P : Program) (f : Nat) : Bool :=
  match P.funcs[f]? with
  | some fn => fn.body.isSome && fn.name != "runtime.NumGoroutine"
  | none => false

def chkOp (P : Program) (nt : Nat) (o : Op) (io : IOp) : Bool :=
  match o, io with
  | .move x, .mv y => chkO nt x y
  | .assign x, .mv y => chkO nt x y
  | .pick c a b, .pick c' a' b' => chkO nt c c' && chkO nt a a' && chkO nt b b'
  | .binOp op _ x y _, .bin op' x' y' => opEq op op' && chkO nt x x' && chkO nt y y'
  | .binOp op t x y _, .eqb neg x' y' => eqOp neg op && (P.underlying t matches some .bool) && chkO nt x x' && chkO nt y y'
  | .binOp op t x y _, .eqn kd neg x' y' => eqOp neg op && nilT P t == some kd && (Region.isConst x || Region.isConst y) && chkO nt x x' && chkO nt y y'
  | .binOp op t x y _, .eqs ks neg x' y' => eqOp neg op && plainS P t ks && chkO nt x x' && chkO nt y y'
  | .unOp op _ x, .un op' x' => (match op, op' with | .neg, .neg | .xor, .xor | .not, .not => true | _, _ => false) && chkO nt x x'
  | .convert s d x, .conv k x' => (P.underlying s).isSome && (match P.underlying d with | some (.int k') => Nat.beq (kN k) (kN k') | _ => false) && chkO nt x x'
  | .convert s d x, .cvs x' => (P.underlying s matches some .string) && (P.underlying d matches some .string) && chkO nt x x'
  | .convert s d x, .b2s x' => (match elemT P s with | some e => (match P.underlying e with | some (.int .u8) => true | _ => false) | none => false) && (P.underlying d matches some .string) && chkO nt x x'
  | .convert s d x, .s2b x' => (P.underlying s matches some .string) && (match elemT P d with | some e => (match P.underlying e with | some (.int .u8) => true | _ => false) | none => false) && chkO nt x x'
  | .alloc e, .alloc _ z => (match zeroT P e with | some l => sameL l z && z.all oneC | none => false)
  | .box _ x, .box _ x' => chkO nt x x'
  | .load t a, .load a' => (tyAgg P t == some false) && chkO nt a a'
  | .load t a, .loadN n a' => (tyAgg P t == some true) && P.cellsOf t == n && chkO nt a a' && (P.info? t).isSome
  | .store t a x, .store n a' x' => (P.info? t).isSome && P.cellsOf t == n && Nat.blt 0 n && chkO nt a a' && chkO nt x x'
  | .fieldAddr s x f, .fa off x' =>
    (match P.underlying s with
     | some (.struct fs) => (match fs[f]? with | some fd => fd.offset == off && (P.info? fd.type).isSome && P.cellsOf fd.type != 0 | none => false)
     | _ => false) && chkO nt x x'
  | .field s x f, .fld off n x' =>
    (match P.underlying s with
     | some (.struct fs) => (match fs[f]? with
       | some fd => fd.offset == off && (P.info? fd.type).isSome && (match n with | none => tyAgg P fd.type == some false | some m => tyAgg P fd.type == some true && P.cellsOf fd.type == m)
       | none => false)
     | _ => false) && chkO nt x x'
  | .indexAddr t x i, .ixa n x' i' => (match elemT P t with | some e => (P.info? e).isSome && P.cellsOf e == n | none => false) && chkO nt x x' && chkO nt i i'
  | .indexAddr t x i, .ixr len n x' i' => (match P.underlying t with | some (.array l e) => l == len && (P.info? e).isSome && P.cellsOf e == n | _ => false) && chkO nt x x' && chkO nt i i'
  | .index t x i, .ixs x' i' => (P.underlying t matches some .string) && chkO nt x x' && chkO nt i i'
  | .slice t x lo hi mx, .sle n x' lo' hi' mx' =>
    (match elemT P t with | some e => (P.info? e).isSome && P.cellsOf e == n | none => false) && chkO nt x x' && chkOpt nt lo lo' && chkOpt nt hi hi' && chkOpt nt mx mx' && (mx.isNone || hi.isSome)
  | .slice t x lo hi none, .slr len n x' lo' hi' =>
    (match P.underlying t with | some (.array l e) => l == len && (P.info? e).isSome && P.cellsOf e == n && Nat.blt 0 n | _ => false) && chkO nt x x' && chkOpt nt lo lo' && chkOpt nt hi hi'
  | .slice t x lo hi none, .sls x' lo' hi' => (P.underlying t matches some .string) && chkO nt x x' && chkOpt nt lo lo' && chkOpt nt hi hi'
  | .call ⟨.builtin .len, args, tys⟩, .len kd x' =>
    (match args.toList, tys.toList with
     | [x], [t] => lenK P t == some kd && chkO nt x x'
     | _, _ => false)
  | .call ⟨.builtin .append, args, tys⟩, .app n eb x' y' =>
    (match args.toList, tys.toList with
     | [x, y], [t, t2] => (match elemT P t with | some e => P.cellsOf e == n && P.bytesOf e == eb && (P.info? e).isSome && !(Nat.beq eb 0) && (match zeroT P e with | some l => Nat.beq l.length n | none => false) | none => false) &&
        (match P.underlying t2 with | some (.int _) => false | some _ => true | none => false) && chkO nt x x' && chkO nt y y'
     | _, _ => false)
  | .call ⟨.builtin .append, args, tys⟩, .appf n eb x' y' =>
    (match args.toList, tys.toList with
     | [x, y], [t, t2] => (match elemT P t with | some e => P.cellsOf e == n && P.bytesOf e == eb && (P.info? e).isSome && !(Nat.beq eb 0) && (match zeroT P e with | some l => Nat.beq l.length n | none => false) | none => false) &&
        (match P.underlying t2 with | some (.int _) => false | some _ => true | none => false) && chkO nt x x' && chkO nt y y'
     | _, _ => false)
  | .call ⟨.builtin .append, args, tys⟩, .cpy n eb y' =>
    (match args.toList, tys.toList with
     | [x, y], [t, t2] => (match elemT P t with | some e => P.cellsOf e == n && P.bytesOf e == eb && (P.info? e).isSome && !(Nat.beq eb 0) && (match zeroT P e with | some l => Nat.beq l.length n | none => false) | none => false) &&
        (match P.underlying t2 with | some (.int _) => false | some _ => true | none => false) && isNilC x && chkO nt y y'
     | _, _ => false)
  | .call ⟨.builtin .append, args, tys⟩, .appz eb z x' y' =>
    (match args.toList, tys.toList with
     | [x, y], [t, t2] => (match elemT P t with | some e => P.cellsOf e == 1 && P.bytesOf e == eb && (P.info? e).isSome && !(Nat.beq eb 0) && (match zeroT P e with | some [z'] => sameC z' z && oneC z' | _ => false) | none => false) &&
        (match P.underlying t2 with | some (.int _) => true | _ => false) && chkO nt x x' && chkO nt y y'
     | _, _ => false)
  | .buildSlice t len parts, .bsl n len' z parts' =>
    (match elemT P t with | some e => (P.info? e).isSome && P.cellsOf e == n && (match zeroT P e with | some l => sameL l z && Nat.beq l.length n && z.all oneC | none => false) | none => false) &&
      Nat.beq len len' && Nat.ble (len * n) 16777216 && !(Nat.beq (len * n) 0) && chkPartsS nt parts.toList parts'
  | .build t parts, .bld z parts' =>
    (match zeroT P t with | some l => sameL l z && z.all oneC | none => false) &&
    (match P.underlying t with
     | some (.struct fs) => (fs.toList.all fun f => (P.info? f.type).isSome) && chkParts nt (fun i => (fs[i]?).map fun f => (f.offset, P.cellsOf f.type)) parts.toList parts'
     | some (.array _ e) => (P.info? e).isSome && chkParts nt (fun i => some (i * P.cellsOf e, P.cellsOf e)) parts.toList parts'
     | _ => false)
  | .makeSlice t x y, .mks eb z x' y' =>
    (match elemT P t with | some e => P.cellsOf e == 1 && P.bytesOf e == eb && (P.info? e).isSome && (match zeroT P e with | some [z'] => sameC z' z && oneC z' | _ => false) | none => false) &&
      chkO nt x x' && chkO nt y y' && !(Nat.beq eb 0)
  | .extract x i, .ext x' i' => Nat.beq i i' && chkO nt x x'
  | .nilCheck x, .nilc x' => chkO nt x x'
  | .makeInterface t x, .mki t' x' => Nat.beq t t' && (match P.underlying t with | some (.interface _) => false | some _ => true | none => false) && chkO nt x x'
  | .makeFunc (.func f) first captured, .mkf f' first' captured' => Nat.beq f f' && chkOs nt first.toList first' && chkOs nt captured.toList captured'
  | .call ⟨.builtin .max, args, _⟩, .mx x' y' => (match args.toList with | [x, y] => chkO nt x x' && chkO nt y y' | _ => false)
  | .call ⟨.builtin .min, args, _⟩, .mn x' y' => (match args.toList with | [x, y] => chkO nt x x' && chkO nt y y' | _ => false)
  | .call ⟨.value (.func f), args, _⟩, .call f' args' => Nat.beq f f' && bodied P f && chkOs nt args.toList args'
  | .call ⟨.value (.func f), args, _⟩, .callc f' args' => Nat.beq f f' && bodied P f && chkOs nt args.toList args'
  | .call ⟨.value (.func f), args, _⟩, .calll f' args' => Nat.beq f f' && bodied P f && chkOs nt args.toList args'
  | .call ⟨.value (.func f), args, _⟩, .callf f' args' => Nat.beq f f' && bodied P f && chkOs nt args.toList args'
  | .move x, .mvf y => chkO nt x y
  | .assign x, .mvf y => chkO nt x y
  | .buildSlice t len parts, .bsli n len' z parts' =>
    (match elemT P t with | some e => (P.info? e).isSome && P.cellsOf e == n && (match zeroT P e with | some l => sameL l z && Nat.beq l.length n && z.all oneC | none => false) | none => false) &&
      Nat.beq len len' && Nat.ble (len * n) 16777216 && !(Nat.beq (len * n) 0) && chkPartsS nt parts.toList parts'
  | .buildSlice t len parts, .bsle => Nat.beq len 0 && Nat.beq parts.size 0 && (match elemT P t with | some e => (P.info? e).isSome | none => false)
  | .buildSlice t len parts, .bslz n => Nat.beq len 0 && Nat.beq parts.size 0 && (match elemT P t with | some e => (P.info? e).isSome && P.cellsOf e == n | none => false)
  | .convert s d x, .s2bi x' => (P.underlying s matches some .string) && (match elemT P d with | some e => (match P.underlying e with | some (.int .u8) => true | _ => false) | none => false) && chkO nt x x'
  | .convert s d x, .cvsl x' => (s == d) && (match elemT P d with | some e => (match P.underlying e with | some (.int .u8) => true | _ => false) | none => false) && chkO nt x x'
  | .convert s d x, .cvslf x' => (s == d) && (match elemT P d with | some e => (match P.underlying e with | some (.int .u8) => true | _ => false) | none => false) && chkO nt x x'
  | .range t x, .rng x' => (P.underlying t matches some .string) && chkO nt x x'
  | .next x isS, .nxt x' => isS && chkO nt x x'
  | .makeMap _ none, .mkm => true
  | .lookup t x k ok, .lku kd ag ok' z x' k' =>
    (match P.underlying t with | some (.map key elem) => plainK P key == some kd && (match (P.info? elem).bind (·.zero) with | some zv => sameZ zv ag z | none => false) | _ => false) && (ok == ok') && chkO nt x x' && chkO nt k k'
  | .mapUpdate t x k v, .mup kd x' k' v' => (match P.underlying t with | some (.map key _) => plainK P key == some kd | _ => false) && chkO nt x x' && chkO nt k k' && chkO nt v v'
  | .call ⟨.value f, args, _⟩, .callv f' args' => chkO nt f f' && chkOs nt args.toList args'
  | _, _ => false

def chkS (P : Program) (nt : Nat) (o : Oper) (s : IStmt) : Bool := o.dst == s.dst && o.guard == s.guard && chkOp P nt o.op s.op && (match o.dst with | some d => Nat.blt d nt | none => true)
def chkL (P : Program) (nt : Nat) : List Oper → List IStmt → Bool
  | [], [] => true
  | o :: l, s :: m => chkS P nt o s && chkL P nt l m
  | _, _ => false

end Go.Proofs.Ytdkdifjjpbfohaa.Fw
