import Derived.Test.YtidododdhnbpkaaGreatDoorGh
import GoSem.Op.Equal
/- Types as the evaluator wants them, off the program. -/
noncomputable section
namespace Go.Gh
/-- A value as a plain one. -/
def dOf : Value → D
  | .int k n => .int k n
  | .bool b => .bool b
  | .string s => .str (s.data.toList.map codeOf)
  | .pointer none => .nilp
  | .slice none 0 0 => .nils
  | .nilFunc => .nilf
  | .nilIface => .nili
  | _ => .undef
/-- Is it a struct or an array? -/
def isAggT (P : Program) (t : Nat) : Bool := match P.underlying t with | some (.struct _) => true | some (.array _ _) => true | _ => false
def aggOrNone (P : Program) (t : Nat) : Bool := isAggT P t || (P.underlying t).isNone
def offsOf (P : Program) (fs : List Field) : List (Nat × Nat × Bool) := fs.map fun f => (f.offset, ((P.info? f.type).map (·.size)).getD 0, isAggT P f.type)
/-- The fields' kinds, where all are numbers, bools and texts, one behind the other. -/
def kindsOf (P : Program) : List Field → Nat → Option (List Kind)
  | [], _ => some []
  | f :: fs, i =>
    if f.offset = i ∧ f.name ≠ "_" then
      match P.underlying f.type with
      | some (.int k) => (kindsOf P fs (i + 1)).map (.int k :: ·)
      | some .bool => (kindsOf P fs (i + 1)).map (.bool :: ·)
      | some .string => (kindsOf P fs (i + 1)).map (.str :: ·)
      | _ => none
    else none
def cmpOf (P : Program) (t : Nat) (fs : List Field) : Option (List Kind) :=
  if P.stoodInHeld t = false ∧ P.eqGuardType P.depth t = false then kindsOf P fs 0 else none
/-- Where an element's zero is a byte, the element's type is a byte's. -/
def byteOk (P : Program) (e : TypeId) (l : List Value) : Bool :=
  match l with
  | [.int .u8 _] => match P.underlying e with | some (.int .u8) => true | _ => false
  | _ => true
def mk (k : Kind) (n : Nat) (z : Value) : Option T := if n = 1 then some ⟨k, n, [], none, 0, [], z.cells.toList.map dOf⟩ else none
/-- What is known of a type, off the program. -/
def tOf (P : Program) (t : Nat) : Option T :=
  match P.info? t, P.underlying t with
  | some i, some d =>
    match i.zero with
    | some z =>
      if z.cells.size = i.size then
        match d with
        | .int k => mk (.int k) i.size z
        | .bool => mk .bool i.size z
        | .string => mk .str i.size z
        | .pointer _ => mk .ptr i.size z
        | .func .. => mk .func i.size z
        | .interface _ => mk .iface i.size z
        | .map k e => match P.underlying k, P.info? e with
          | some .string, some j => match j.zero with
            | some (.agg _) | some (.tuple _) | none => none
            | some y => if i.size = 1 then some ⟨.map, i.size, [], none, 0, [dOf y], z.cells.toList.map dOf⟩ else none
          | _, _ => none
        | .slice e => match P.info? e with
          | some j => match j.zero with
            | some y => if i.size = 1 ∧ y.cells.size = j.size ∧ 0 < j.size ∧ j.size ≤ 64 ∧ j.bytes ≤ 2048 ∧ (0 < j.bytes ∧ byteOk P e y.cells.toList = true) then some ⟨.slice, i.size, [], none, j.size, y.cells.toList.map dOf, z.cells.toList.map dOf⟩ else none
            | none => none
          | none => none
        | .array n e => match P.info? e with
          | some j => match z with
            | .agg _ => if 0 < j.size then some ⟨.arr n, i.size, [], none, j.size, if aggOrNone P e then [] else [.nilp], z.cells.toList.map dOf⟩ else none
            | _ => none
          | none => none
        | .struct fs => match z with
          | .agg _ => if fs.toList.all (fun f => (P.info? f.type).isSome) = true ∧ fs.toList.all (fun f => (P.underlying f.type).isSome) = true then some ⟨.struct, i.size, offsOf P fs.toList, cmpOf P t fs.toList, 0, [], z.cells.toList.map dOf⟩ else none
          | _ => none
        | _ => none
      else none
    | none => none
  | _, _ => none
end Go.Gh
