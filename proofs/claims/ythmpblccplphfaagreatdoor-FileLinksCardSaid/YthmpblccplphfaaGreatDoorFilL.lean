/-
  Trees of files: what the document says, in plain Lean. No program here.
-/
import Derived.Test.YthmpblccplphfaaGreatDoorCmdL
import Derived.Test.YthmpblccplphfaaGreatDoorMapView
namespace Go.Proofs.YthmpblccplphfaaGreatDoor
open Go.RowKit
abbrev Nm := List (List UInt8 × Int)
abbrev delN (s : List UInt8) (l : Nm) : Nm := delG s l
abbrev putN (s : List UInt8) (k : Int) (l : Nm) : Nm := putG bytesBefore s k l
abbrev getN (s : List UInt8) (l : Nm) : Option Int := getG s l
structure Nd where
  num : Int
  dir : Bool
  links : Int
  data : List UInt8
  names : Nm
abbrev Tr := List Nd
def Tr.get (T : Tr) (k : Int) : Option Nd := T.find? fun n => n.num == k
def Tr.upd (T : Tr) (k : Int) (f : Nd → Nd) : Tr := T.map fun x => if x.num == k then f x else x
def Tr.add (n : Nd) : Tr → Tr
  | [] => [n]
  | y :: r => if n.num < y.num then n :: y :: r else y :: Tr.add n r
def Tr.drop (T : Tr) (k : Int) : Tr := T.filter fun n => !(n.num == k)
def Tr.new : Tr := [⟨1, true, 1, [], []⟩]
/-- what names name: a number, or why there is none -/
def findT (T : Tr) : Int → List (List UInt8) → Except Int Int
  | k, [] => .ok k
  | k, s :: r => match T.get k with
    | none => .error 141
    | some n => if n.dir = true then (match getN s n.names with | none => .error 141 | some j => findT T j r) else .error 143
def atT (T : Tr) (path : List UInt8) : Except Int Int := match pathOf path with
  | none => .error 140
  | some l => findT T 1 l
def roomT (T : Tr) (path : List UInt8) : Except Int (Int × List UInt8) :=
  let l := (pathOf path).getD []
  if l = [] then .error 142 else match findT T 1 l.dropLast with
    | .error e => .error e
    | .ok k => match T.get k with
      | none => .error 141
      | some up => if up.dir = false then .error 143 else if (getN (l.getLastD []) up.names).isSome = true then .error 142 else if 60 ≤ up.names.length then .error 145 else .ok (k, l.getLastD [])
/-- the least number from k on that is free -/
def freshT (T : Tr) : Nat → Int → Int
  | 0, k => k
  | f + 1, k => if (T.get k).isSome = true then freshT T f (k + 1) else k
def Tr.named (T : Tr) (k : Int) (f : Nm → Nm) : Tr := T.upd k fun n => { n with names := f n.names }
def makesT (T : Tr) (c : Cmd) : Tr × Int := match roomT T c.path with
  | .error e => (T, e)
  | .ok (k, s) => if 60 ≤ T.length then (T, 145) else
    let num := freshT T T.length 2
    ((Tr.add ⟨num, c.kind == 1, 1, [], []⟩ T).named k (putN s num), 0)
def cutW (c : Cmd) (d : List UInt8) : List UInt8 :=
  let s := d.take c.pos.toNat ++ c.data
  if c.kind = 2 ∧ s.length < d.length then s ++ d.drop s.length else s
def writesT (T : Tr) (c : Cmd) : Tr × Int := match atT T c.path with
  | .error e => (T, e)
  | .ok k => match T.get k with
    | none => (T, 141)
    | some n => if n.dir = true then (T, 143) else if (n.data.length : Int) < c.pos ∨ c.kind = 2 ∧ 16384 < c.pos + c.data.length then (T, 145) else
      (T.upd k fun n => { n with data := cutW c n.data }, 0)
def linksT (T : Tr) (c : Cmd) : Tr × Int := match atT T c.path with
  | .error e => (T, e)
  | .ok j => match T.get j with
    | none => (T, 141)
    | some n => if n.dir = true then (T, 143) else match roomT T c.dest with
      | .error e => (T, e)
      | .ok (k, s) => ((T.named k (putN s j)).upd j fun n => { n with links := n.links + 1 }, 0)
/-- how many names the longest path below a node has -/
def deepT (T : Tr) : Nat → Int → Nat
  | 0, _ => 0
  | f + 1, k => match T.get k with
    | none => 0
    | some n => n.names.foldl (fun m p => max m (1 + deepT T f p.2)) 0
def renamesT (T : Tr) (c : Cmd) : Tr × Int := if c.path = [47] then (T, 144) else match atT T c.path with
  | .error e => (T, e)
  | .ok j => if Lib.hasPrefix c.dest (c.path ++ [47]) = true then (T, 144) else match roomT T c.dest with
    | .error e => (T, e)
    | .ok (k, s) => if 8 < ((pathOf c.dest).getD []).length + deepT T 9 j then (T, 145) else
      let l := (pathOf c.path).getD []
      match findT T 1 l.dropLast with
      | .error e => (T, e)
      | .ok o => ((T.named o (delN (l.getLastD []))).named k (putN s j), 0)
def removesT (T : Tr) (c : Cmd) : Tr × Int := if c.path = [47] then (T, 144) else match atT T c.path with
  | .error e => (T, e)
  | .ok j => match T.get j with
    | none => (T, 141)
    | some n => if n.names ≠ [] then (T, 144) else
      let l := (pathOf c.path).getD []
      match findT T 1 l.dropLast with
      | .error e => (T, e)
      | .ok o =>
        let T' := T.named o (delN (l.getLastD []))
        (if n.links = 1 then T'.drop j else T'.upd j fun n => { n with links := n.links - 1 }, 0)
def doT (T : Tr) (c : Cmd) : Tr × Int := if c.ok = false then (T, 1) else
  if c.kind = 0 ∨ c.kind = 1 then makesT T c else if c.kind = 2 ∨ c.kind = 3 then writesT T c else if c.kind = 4 then linksT T c else if c.kind = 5 then renamesT T c else if c.kind = 6 then removesT T c else (T, 1)

/-! ### bytes -/
def encN (n : Nat) : List UInt8 := if h : n < 128 then [UInt8.ofNat n] else UInt8.ofNat (n % 128 + 128) :: encN (n / 128)
  termination_by n
  decreasing_by omega
def encE1 (p : List UInt8 × Int) : List UInt8 := encN p.1.length ++ p.1 ++ encN p.2.toNat
def encE (l : Nm) : List UInt8 := encN l.length ++ l.flatMap encE1
/-- may a list of entries be laid? -/
def entB (was : Option (List UInt8)) (p : List UInt8 × Int) : Bool := nameOk p.1 && (match was with | none => true | some s => bytesBefore s p.1) && decide (1 ≤ p.2) && decide (p.2 ≤ 65535)
def entsB : Option (List UInt8) → Nm → Bool
  | _, [] => true
  | was, p :: r => entB was p && entsB (some p.1) r
def entsOk (l : Nm) : Bool := decide (l.length ≤ 4096) && entsB none l
/-- a node, as it is told -/
structure Nt where
  num : Int
  dir : Bool
  links : Int
  data : List UInt8
def Nd.told (n : Nd) : Nt := ⟨n.num, n.dir, n.links, if n.dir = true then encE n.names else n.data⟩
def toldT (T : Tr) : List Nt := T.map Nd.told
end Go.Proofs.YthmpblccplphfaaGreatDoor
