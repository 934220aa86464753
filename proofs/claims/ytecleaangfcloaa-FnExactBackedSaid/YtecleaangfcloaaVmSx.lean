/- The program's code, run on names: what it does to values, as a text of the language of values. Definitions, no statement. -/
import Derived.Test.YtecleaangfcloaaVmIr
namespace Go.Vm
set_option linter.unusedVariables false
set_option linter.unusedSimpArgs false

noncomputable section
/- Lists by their recursor: what the kernel reckons goes ten times as fast. -/
def setR.{u} {α : Type u} (l : List α) (i : Nat) (v : α) : List α :=
  List.rec (motive := fun _ => Nat → List α) (fun _ => []) (fun x xs ih i => Nat.rec (motive := fun _ => List α) (v :: xs) (fun j _ => x :: ih j) i) l i

def getL.{u} {α : Type u} (l : List α) (i : Nat) : Option α := l[i]?

def getR.{u} {α : Type u} (l : List α) (i : Nat) : Option α :=
  List.rec (motive := fun _ => Nat → Option α) (fun _ => none) (fun x _ ih i => Nat.rec (motive := fun _ => Option α) (some x) (fun j _ => ih j) i) l i

def mapR.{u, v} {α : Type u} {β : Type v} (f : α → β) (l : List α) : List β :=
  List.rec (motive := fun _ => List β) [] (fun x _ ih => f x :: ih) l

def allR.{u} {α : Type u} (l : List α) (p : α → Bool) : Bool :=
  List.rec (motive := fun _ => Bool) true (fun x _ ih => bif p x then ih else false) l

theorem setR_eq.{u} {α : Type u} : ∀ (l : List α) (i : Nat) (v : α), setR l i v = l.set i v
  | [], _, _ => rfl
  | x :: xs, 0, v => rfl
  | x :: xs, i + 1, v => by
    show x :: setR xs i v = _
    rw [setR_eq xs i v]; rfl

theorem getR_eq.{u} {α : Type u} : ∀ (l : List α) (i : Nat), getR l i = l[i]?
  | [], _ => rfl
  | x :: xs, 0 => rfl
  | x :: xs, i + 1 => by
    show getR xs i = _
    rw [getR_eq xs i]; simp

theorem mapR_eq.{u, v} {α : Type u} {β : Type v} (f : α → β) : ∀ (l : List α), mapR f l = l.map f
  | [] => rfl
  | x :: xs => by
    show f x :: mapR f xs = _
    rw [mapR_eq f xs]; rfl

theorem allR_eq.{u} {α : Type u} (p : α → Bool) : ∀ (l : List α), allR l p = l.all p
  | [] => rfl
  | x :: xs => by
    show (bif p x then allR xs p else false) = _
    rw [allR_eq p xs]; cases h : p x <;> simp [h]

/-- What a slot holds, by name. -/
inductive SV where
  | undef
  | void
  | at (x : A) (m : Md)
  | ptr (r off : Nat)
  | psh (x : A) (off : Nat)
  | rf (b : Bool) (r c : Nat)
  | pel (b : Bool) (r c : Nat) (m : Nat) (i : A) (off : Nat)
  | vw (x : A) (b : Bool) (r : Nat)
  | tup (xs : List (A × Md))
  deriving Inhabited

abbrev Cell : Type := Option (A × Md)
abbrev Bx : Type := Option (List Cell)

structure Sg where
  slots : List SV
  boxes : List Bx
  dec : List (A × Bool)
  nv : Nat
  nl : Nat
  deriving Inhabited

/-- How a function takes a parameter: its value, or a variable's address (m: how its content's rows are owned). -/
inductive PK where
  | val
  | io (m : Md)
  deriving DecidableEq, Inhabited

/-- A function's shape: parameters, the codes and modes of the results; ios come behind the results. -/
structure Sig where
  pk : List PK
  rt : List (Ty × Md)
  deriving Inhabited

inductive Em where
  | e (x : Ex)
  | call (f : Nat) (xs : List A) (n : Nat)
  deriving Inhabited

/-- One operation's doing. -/
structure Step where
  em : List Em := []
  wr : List (Nat × SV) := []
  bx : List (Nat × Bx) := []
  kill : List (Nat × Nat) := []
  deriving Inhabited

def Md.isSh : Md → Bool
  | .sh => true
  | _ => false

/-- The mode of cell c. -/
def Md.cell : Md → Nat → Md
  | m, 0 => m.l
  | m, c + 1 => m.r.cell c

/-- What reads the state: which slots and boxes it has read is kept. -/
def Rd (α : Type) : Type := Sg → Option (α × List (Bool × Nat))

namespace Rd
variable {α β : Type}
def pure (a : α) : Rd α := fun _ => some (a, [])
def fail : Rd α := fun _ => none
def bind (x : Rd α) (f : α → Rd β) : Rd β := fun σ => match x σ with
  | some (a, l) => match f a σ with
    | some (b, l') => some (b, l ++ l')
    | none => none
  | none => none
def slot (i : Nat) : Rd SV := fun σ => match getR σ.slots i with | some s => some (s, [(false, i)]) | none => none
def box (i : Nat) : Rd (List Cell) := fun σ => match getR σ.boxes i with | some (some b) => some (b, [(true, i)]) | _ => none
def boxAny (i : Nat) : Rd Bx := fun σ => match getR σ.boxes i with | some b => some (b, [(true, i)]) | _ => none
def ofO (o : Option α) : Rd α := fun _ => match o with | some a => some (a, []) | none => none
def guard (b : Bool) : Rd Unit := fun _ => if b then some ((), []) else none
instance : Monad Rd where
  pure := Rd.pure
  bind := Rd.bind
end Rd

/-- A constant, by name. -/
def constA (P : Program) (t : TypeId) : Value → Option A
  | .int k n => some (.int k n)
  | .bool b => some (.bool b)
  | .string s => some (.str (s.data.toList.map (·.toNat)))
  | .slice none 0 0 => match tyD P t with | some (.sl e) => some (.nil e) | _ => none
  | _ => none

/-- A nil slice is owned. -/
def constM : A → Md
  | .nil e => .own (Md.deep e)
  | _ => .sh

def opnd (P : Program) (t : TypeId) : Operand → Rd SV
  | .tmp i => Rd.slot i
  | .const v => Rd.ofO ((constA P t v).map fun a => .at a (constM a))
  | _ => Rd.fail

/-- The value of an operand, to be read alone. -/
def look (P : Program) (t : TypeId) (x : Operand) : Rd A := do
  match ← opnd P t x with
  | .at x _ => pure x
  | .vw x _ _ => pure x
  | .rf false r _ => match ← Rd.slot r with
    | .at x (.own _) => pure x
    | _ => Rd.fail
  | .rf true r c => match (← Rd.box r)[c]? with
    | some (some (x, .own _)) => pure x
    | _ => Rd.fail
  | _ => Rd.fail

/-- The value of an operand, which nobody writes. -/
def lookSh (P : Program) (t : TypeId) (x : Operand) : Rd A := do
  match ← opnd P t x with
  | .at x .sh => pure x
  | .at (.nil e) (.own _) => pure (.nil e)
  | _ => Rd.fail

/-- A struct type's field: its first cell, its type. -/
def fieldOf (P : Program) (s : TypeId) (f : Nat) : Option (Nat × TypeId) :=
  match P.underlying s with
  | some (.struct fs) => (fs[f]?).map fun f => (f.offset, f.type)
  | _ => none

def isAggB (P : Program) (t : TypeId) : Bool :=
  match P.underlying t with
  | some (.struct _) => true
  | _ => false

def notAggB (P : Program) (t : TypeId) : Bool :=
  match P.underlying t with
  | some (.struct _) | some (.array _ _) | none => false
  | _ => true

def elemOf (P : Program) (t : TypeId) : Option TypeId :=
  match P.underlying t with
  | some (.slice e) => some e
  | _ => none

/-- The cells that are known. -/
def knownA : List Cell → Option (List A)
  | [] => some []
  | some (x, _) :: cs => (knownA cs).map (x :: ·)
  | none :: _ => none

/-- The owned row that an alias is of: its name, its elements' mode. -/
def rootA (b : Bool) (r c : Nat) : Rd (A × Md) :=
  match b with
  | false => do
    match ← Rd.slot r with
    | .at x (.own m) => pure (x, m)
    | _ => Rd.fail
  | true => do
    match (← Rd.box r)[c]? with
    | some (some (x, .own m)) => pure (x, m)
    | _ => Rd.fail

/-- Are the modes of cells off .. all 'nobody writes'? -/
def cellsSh (m : Md) (off : Nat) : Nat → Bool
  | 0 => true
  | n + 1 => (m.cell off).isSh && cellsSh m (off + 1) n

/-- The codes of a struct's cells. -/
def tyCells : Ty → List Ty
  | .unit => []
  | .pair a b => a :: tyCells b
  | t => [t]

def zeroA : Ty → Option A
  | .int k => some (.int k 0)
  | .bool => some (.bool false)
  | .str => some (.str [])
  | .sl e => some (.nil e)
  | _ => none

def zeroCells (τ : Ty) : Option (List Cell) := (tyCells τ).mapM fun t => (zeroA t).map fun a => some (a, constM a)

/-- n cells of a, from off on, by name. -/
def cellsM (a : A) : Nat → Md → Nat → List Cell
  | _, _, 0 => []
  | off, m, n + 1 => some (.fld a off, m.l) :: cellsM a (off + 1) m.r n

def Cell.isOwn : Cell → Bool
  | some (_, m) => !m.isSh
  | none => false

/-- The cells that are known, all with rows that nobody writes. -/
def shCells : List Cell → Option (List A)
  | [] => some []
  | some (x, .sh) :: cs => (shCells cs).map (x :: ·)
  | some (.nil e, .own _) :: cs => (shCells cs).map (.nil e :: ·)
  | _ => none

/-- A type's zero value is just these cells. -/
def zeroOk (P : Program) (t : TypeId) (cs : List Cell) : Bool :=
  match P.info? t with
  | some i => match i.zero with
    | some z => (z.cells.toList.zip cs).all (fun x => match x with
        | (.int k 0, some (.int k' 0, .sh)) => k == k'
        | (.bool false, some (.bool false, .sh)) => true
        | (.string s, some (.str [], .sh)) => s.size == 0
        | (.slice none 0 0, some (.nil _, .own _)) => true
        | _ => false) && z.cells.size == cs.length
    | none => false
  | none => false

/-- A value of mode m' may be handed out as one of mode m. -/
def coeR (x : A) (m m' : Md) : Bool :=
  m == m' || (match x, m, m' with
    | .nil _, .own _, .own _ => true
    | .nil _, .sh, .own _ => true
    | _, _, _ => false)

/-- The cells are those of a struct of mode m; their names. -/
def matchM : Md → List Cell → Option (List A)
  | _, [] => some []
  | m, some (x, m') :: cs => if coeR x m.l m' then (matchM m.r cs).map (x :: ·) else none
  | _, none :: _ => none

/-- A slot that is to be written. -/
def dstOf (o : Option Tmp) : Rd Nat := do
  let d ← Rd.ofO o
  let s ← Rd.slot d
  Rd.guard (match s with | .at _ m => m.isSh | _ => true)
  pure d

/-- Where a value is made. -/
def putE (d : Nat) (nv : Nat) (op : Xo) (args : List A) : Step := { em := [.e ⟨op, args⟩], wr := [(d, .at (.var nv) .sh)] }

/-- A value taken from where it is owned. -/
structure Take where
  x : A
  m : Md
  wr : List (Nat × SV) := []
  bx : List (Nat × Bx) := []
  kill : List (Nat × Nat) := []
  deriving Inhabited

def takeV (P : Program) (t : TypeId) (x : Operand) : Rd Take := do
  match ← opnd P t x with
  | .at y .sh => pure { x := y, m := .sh }
  | .at y m => match x with
    | .tmp s => pure { x := y, m := m, wr := [(s, .undef)], kill := [(0, s)] }
    | _ => pure { x := y, m := m }
  | .rf false r _ => match ← Rd.slot r with
    | .at y (.own m) => pure { x := y, m := .own m, wr := [(r, .undef)], kill := [(0, r)] }
    | _ => Rd.fail
  | .rf true r c => do
    let b ← Rd.box r
    match b[c]? with
    | some (some (y, .own m)) => pure { x := y, m := .own m, bx := [(r, some (b.set c none))], kill := [(2, r)] }
    | _ => Rd.fail
  | _ => Rd.fail

/-- A value is read into a slot; a row that is owned stays where it is. -/
def stMove (P : Program) (d : Nat) (t : TypeId) (x : Operand) : Rd Step := do
  match ← opnd P t x with
  | .at x .sh => pure { wr := [(d, .at x .sh)] }
  | .ptr r f => pure { wr := [(d, .ptr r f)] }
  | .psh x f => pure { wr := [(d, .psh x f)] }
  | .at _ (.own _) => match x with
    | .tmp s => do
      Rd.guard (s != d)
      pure { wr := [(d, .rf false s 0)] }
    | _ => do
      let k ← takeV P t x
      pure { wr := [(d, .at k.x k.m)] }
  | .rf b r c => do
    Rd.guard (!(b == false && r == d))
    pure { wr := [(d, .rf b r c)] }
  | _ => Rd.fail

/-- A slot is assigned: what was owned elsewhere is owned here. -/
def stAssign (P : Program) (o : Option Tmp) (t : TypeId) (x : Operand) : Rd Step := do
  let d ← Rd.ofO o
  match ← opnd P t x with
  | .ptr r f => do
    let d ← dstOf o
    pure { wr := [(d, .ptr r f)] }
  | .psh x f => do
    let d ← dstOf o
    pure { wr := [(d, .psh x f)] }
  | _ => do
    let k ← takeV P t x
    let _ ← Rd.slot d
    pure { kill := k.kill ++ [(0, d)], bx := k.bx, wr := k.wr ++ [(d, .undef), (d, .at k.x k.m)] }

def stBox (P : Program) (nv d : Nat) (t : TypeId) (x : Operand) : Rd Step := do
  let x ← lookSh P t x
  let _ ← Rd.boxAny d
  pure { em := [.e ⟨.all (P.cellsOf t), [x]⟩], wr := [(d, .ptr d 0)], bx := [(d, some (cellsM (.var nv) 0 .sh (P.cellsOf t)))], kill := [(1, d)] }

def stAlloc (P : Program) (d : Nat) (t : TypeId) : Rd Step := do
  let τ ← Rd.ofO (tyD P t)
  let cs ← Rd.ofO (zeroCells τ)
  let _ ← Rd.boxAny d
  Rd.guard (zeroOk P t cs)
  pure { wr := [(d, .ptr d 0)], bx := [(d, some cs)], kill := [(1, d)] }

def stLoad (P : Program) (nv d : Nat) (t : TypeId) (x : Operand) : Rd Step := do
  match ← opnd P 0 x with
  | .ptr r f =>
    let b ← Rd.box r
    if isAggB P t then
      let n := P.cellsOf t
      Rd.guard (f + n ≤ b.length && n != 0)
      let xs ← Rd.ofO (shCells ((b.drop f).take n))
      pure (putE d nv .mk xs)
    else do
      Rd.guard (notAggB P t)
      match b[f]? with
      | some (some (x, .sh)) => pure { wr := [(d, .at x .sh)] }
      | some (some (_, .own _)) => pure { wr := [(d, .rf true r f)] }
      | _ => Rd.fail
  | .pel b r c m i f => do
    let (x, mm) ← rootA b r c
    let n := P.cellsOf t
    Rd.guard (mm.isSh && n != 0)
    if isAggB P t then pure { em := [.e ⟨.idx m, [x, i]⟩, .e ⟨.cells f n, [.var nv]⟩], wr := [(d, .at (.var (nv + 1)) .sh)] }
    else do
      Rd.guard (notAggB P t && n == 1)
      pure { em := [.e ⟨.idx m, [x, i]⟩, .e ⟨.a, [.fld (.var nv) f]⟩], wr := [(d, .at (.var (nv + 1)) .sh)] }
  | .psh x f =>
    if isAggB P t then do
      Rd.guard (P.cellsOf t != 0)
      pure (putE d nv (.cells f (P.cellsOf t)) [x])
    else do
      Rd.guard (notAggB P t)
      pure (putE d nv .a [.fld x f])
  | _ => Rd.fail

def stStore (P : Program) (nv : Nat) (t : TypeId) (p x : Operand) : Rd Step := do
  match ← opnd P 0 p with
  | .ptr r f =>
    let k ← takeV P t x
    let b ← Rd.box r
    let n := P.cellsOf t
    Rd.guard (k.bx.all fun y => y.1 != r)
    if isAggB P t then
      Rd.guard (f + n ≤ b.length && n != 0)
      pure { em := [.e ⟨.all n, [k.x]⟩], kill := k.kill ++ (if b.any Cell.isOwn then [(2, r)] else []), bx := k.bx ++ [(r, some (b.take f ++ cellsM (.var nv) 0 k.m n ++ b.drop (f + n)))], wr := k.wr }
    else
      Rd.guard (f + 1 ≤ b.length && n == 1)
      pure { em := [.e ⟨.atom, [k.x]⟩], kill := k.kill ++ (if b.any Cell.isOwn then [(2, r)] else []), bx := k.bx ++ [(r, some (b.take f ++ [some (.var nv, k.m)] ++ b.drop (f + 1)))], wr := k.wr }
  | .pel b r c m i f => do
    let (x0, mm) ← rootA b r c
    let y ← lookSh P t x
    Rd.guard (mm.isSh && f == 0 && P.cellsOf t == m && m != 0)
    match b with
    | false => pure { em := [.e ⟨.setE m, [x0, i, y]⟩], kill := [(0, r)], wr := [(r, .at (.var nv) (.own .sh))] }
    | true => do
      let bx ← Rd.box r
      pure { em := [.e ⟨.setE m, [x0, i, y]⟩], kill := [(2, r)], bx := [(r, some (bx.set c (some (.var nv, .own .sh))))] }
  | _ => Rd.fail

def stNilCheck (P : Program) (d : Nat) (x : Operand) : Rd Step := do
  match ← opnd P 0 x with
  | .ptr r f => pure { wr := [(d, .ptr r f)] }
  | _ => Rd.fail

def stFieldAddr (P : Program) (d : Nat) (s : TypeId) (x : Operand) (f : Nat) : Rd Step := do
  let (off, ft) ← Rd.ofO (fieldOf P s f)
  Rd.guard (P.cellsOf ft != 0)
  match ← opnd P 0 x with
  | .ptr r g => pure { wr := [(d, .ptr r (g + off))] }
  | .psh x g => pure { wr := [(d, .psh x (g + off))] }
  | .pel b r c m i g => do
    Rd.guard (!(b == false && r == d))
    pure { wr := [(d, .pel b r c m i (g + off))] }
  | _ => Rd.fail

def stIndexAddr (P : Program) (nv d : Nat) (t : TypeId) (x i : Operand) : Rd Step := do
  let e ← Rd.ofO (elemOf P t)
  let i ← look P 0 i
  Rd.guard (P.cellsOf e != 0)
  match ← opnd P t x with
  | .rf b r c => do
    let (v, _) ← rootA b r c
    Rd.guard (!(b == false && r == d))
    pure { em := [.e ⟨.idx (P.cellsOf e), [v, i]⟩], wr := [(d, .pel b r c (P.cellsOf e) i 0)] }
  | .at v (.own _) => do
    let s ← Rd.ofO (match x with | .tmp s => some s | _ => none)
    pure { em := [.e ⟨.idx (P.cellsOf e), [v, i]⟩], wr := [(d, .pel false s 0 (P.cellsOf e) i 0)] }
  | _ => do
    let v ← lookSh P t x
    pure { em := [.e ⟨.idx (P.cellsOf e), [v, i]⟩], wr := [(d, .psh (.var nv) 0)] }

def stE1 (P : Program) (nv d : Nat) (op : Xo) (t : TypeId) (x : Operand) : Rd Step := do
  let a ← look P t x
  pure (putE d nv op [a])

def lenSame (x y : Operand) : Bool :=
  match x, y with
  | .tmp i, .tmp j => i == j
  | .const (.int _ n), .const (.int _ m) => n == m
  | _, _ => false

def stMakeSlice (P : Program) (nv d : Nat) (t : TypeId) (x y : Operand) : Rd Step := do
  let e ← Rd.ofO (elemOf P t)
  let τ ← Rd.ofO (tyD P e)
  let n ← look P 0 x
  Rd.guard (lenSame x y && P.cellsOf e == τ.n && τ.n != 0 && P.bytesOf e ≤ 32768)
  let cs ← Rd.ofO (zeroCells τ)
  let zs ← Rd.ofO (shCells cs)
  Rd.guard (zeroOk P e cs)
  if τ.isAgg then
    pure { em := [.e ⟨.mk, zs⟩, .e ⟨.rep τ, [n, .var nv]⟩], wr := [(d, .at (.var (nv + 1)) (.own .sh))] }
  else match zs with
    | [z] => pure { em := [.e ⟨.rep τ, [n, z]⟩], wr := [(d, .at (.var nv) (.own .sh))] }
    | _ => Rd.fail

/-- The elements of a row, all with rows that nobody writes. -/
def lookEl (P : Program) (t : TypeId) (x : Operand) : Rd A := do
  match ← opnd P t x with
  | .at x .sh => pure x
  | .at x (.own .sh) => pure x
  | .at (.nil e) (.own _) => pure (.nil e)
  | .rf b r c => do
    let (x, m) ← rootA b r c
    Rd.guard m.isSh
    pure x
  | _ => Rd.fail

/-- A row to be written, its elements' rows such that nobody writes. -/
def appOk (x : A) : Md → Bool
  | .own .sh => true
  | .own _ => match x with
    | .nil _ => true
    | _ => false
  | _ => false

/-- A type's zero value has n cells. -/
def zOk (P : Program) (e : TypeId) (n : Nat) : Bool :=
  match P.info? e with
  | some i => match i.zero with
    | some z => z.cells.size == n
    | none => false
  | none => false

def stAppend (P : Program) (nv d : Nat) (t : TypeId) (x y : Operand) : Rd Step := do
  let e ← Rd.ofO (elemOf P t)
  let τ ← Rd.ofO (tyD P e)
  Rd.guard (P.cellsOf e == τ.n && τ.n != 0 && P.bytesOf e ≤ 32768 && zOk P e τ.n)
  let k ← takeV P t x
  Rd.guard (appOk k.x k.m)
  let b ← lookEl P t y
  pure { em := [.e ⟨.app τ, [k.x, b]⟩], kill := k.kill, bx := k.bx, wr := k.wr ++ [(d, .at (.var nv) (.own .sh))] }

def lookParts (P : Program) (e : TypeId) : Nat → List (Nat × Operand) → Rd (List A)
  | i, (j, x) :: xs => do
    Rd.guard (i == j)
    let a ← lookSh P e x
    let as ← lookParts P e (i + 1) xs
    pure (a :: as)
  | _, [] => pure []

def stBuildSlice (P : Program) (nv d : Nat) (t : TypeId) (n : Nat) (ps : List (Nat × Operand)) : Rd Step := do
  let e ← Rd.ofO (elemOf P t)
  let τ ← Rd.ofO (tyD P e)
  Rd.guard (P.cellsOf e == τ.n && τ.n != 0 && n * τ.n ≤ 2 ^ 24 && zOk P e τ.n && n == ps.length)
  let xs ← lookParts P e 0 ps
  pure { em := [.e ⟨.lst τ, xs⟩], wr := [(d, .at (.var nv) (.own .sh))] }

def fldsA (b : A) : Nat → Nat → List A
  | _, 0 => []
  | off, n + 1 => .fld b off :: fldsA b (off + 1) n

/-- A struct's parts: what is made of each, the cells. -/
def buildParts (P : Program) (s : TypeId) : Nat → List A → List (Nat × Operand) → Rd (List Em × List A)
  | _, cs, [] => pure ([], cs)
  | nv, cs, (i, x) :: ps => do
    let (off, ft) ← Rd.ofO (fieldOf P s i)
    let n := P.cellsOf ft
    let a ← lookSh P ft x
    Rd.guard (off + n ≤ cs.length && n != 0)
    if isAggB P ft then do
      let (es, r) ← buildParts P s (nv + 1) (cs.take off ++ fldsA (.var nv) 0 n ++ cs.drop (off + n)) ps
      pure (.e ⟨.all n, [a]⟩ :: es, r)
    else do
      Rd.guard (n == 1)
      let (es, r) ← buildParts P s (nv + 1) (cs.take off ++ [.var nv] ++ cs.drop (off + n)) ps
      pure (.e ⟨.atom, [a]⟩ :: es, r)

/-- Where a struct's fields lie. -/
def placesOf (P : Program) (t : TypeId) : Option (List (Nat × Nat)) :=
  match P.underlying t with
  | some (.struct fs) => fs.toList.mapM (fun f => (P.info? f.type).map fun i => (f.offset, i.size))
  | _ => none

def stBuild (P : Program) (nv d : Nat) (t : TypeId) (ps : List (Nat × Operand)) : Rd Step := do
  let τ ← Rd.ofO (tyD P t)
  let cs ← Rd.ofO (zeroCells τ)
  let zs ← Rd.ofO (shCells cs)
  Rd.guard (zeroOk P t cs)
  let _ ← Rd.ofO (placesOf P t)
  let (es, xs) ← buildParts P t nv zs ps
  pure { em := es ++ [.e ⟨.mk, xs⟩], wr := [(d, .at (.var (nv + ps.length)) .sh)] }

def stConvert (P : Program) (nv d : Nat) (src dst : TypeId) (x : Operand) : Rd Step := do
  match P.underlying src, P.underlying dst with
  | some (.int _), some (.int k) => stE1 P nv d (.conv k) src x
  | some (.slice e), some .string => do
    Rd.guard (match P.underlying e with | some (.int .u8) => true | _ => false)
    stE1 P nv d .text src x
  | _, _ => Rd.fail

def stLen (P : Program) (nv d : Nat) (t : TypeId) (x : Operand) : Rd Step := do
  let a ← look P t x
  match P.underlying t with
  | some (.slice _) => pure (putE d nv .len [a])
  | some .string => pure (putE d nv .slen [a])
  | _ => Rd.fail

def stE2 (P : Program) (nv d : Nat) (op : Xo) (t : TypeId) (x : Operand) (u : TypeId) (y : Operand) : Rd Step := do
  let a ← look P t x
  let b ← look P u y
  pure (putE d nv op [a, b])

/-- Is it known which bool this is? -/
def known (σ : Sg) : A → Option Bool
  | .bool b => some b
  | x => (σ.dec.find? fun y => y.1 == x).map (·.2)

def Rd.known (x : A) : Rd (Option Bool) := fun σ => some (Vm.known σ x, [])

def stPick (P : Program) (nv d : Nat) (t : TypeId) (c x y : Operand) : Rd Step := do
  let c ← look P 0 c
  match ← Rd.known c with
  | some b => stMove P d t (if b then x else y)
  | none =>
    let a ← lookSh P t x
    let b ← lookSh P t y
    pure (putE d nv .pick [c, a, b])

def look1 (P : Program) (any : Bool) (t : TypeId) (x : Operand) : Rd A :=
  match any with
  | true => look P t x
  | false => lookSh P t x

def lookAll (P : Program) (any : Bool) : List TypeId → List Operand → Rd (List A)
  | t :: ts, x :: xs => do
    let a ← look1 P any t x
    let as ← lookAll P any ts xs
    pure (a :: as)
  | [], [] => pure []
  | _, _ => Rd.fail

def resSV (nv : Nat) : List (Ty × Md) → SV
  | [(_, m)] => .at (.var nv) m
  | rt => .tup (rt.zipIdx.map fun x => (.var (nv + x.2), x.1.2))

def callOk (P : Program) (f : Nat) : Bool :=
  match P.funcs[f]? with
  | some fn => fn.body.isSome && !(fn.name == "runtime.NumGoroutine")
  | none => false

def stCall (P : Program) (C : Nat → Option Sig) (nv d : Nat) (f : Nat) (ts : List TypeId) (xs : List Operand) : Rd Step := do
  let s ← Rd.ofO (C f)
  let vs ← lookAll P (s.rt.all fun x => noSh x.1 x.2) ts xs
  Rd.guard ((s.pk == xs.map fun _ => PK.val) && callOk P f)
  pure { em := [.call f vs s.rt.length], wr := [(d, resSV nv s.rt)] }

def stExtract (P : Program) (d : Nat) (x : Operand) (i : Nat) : Rd Step := do
  match ← opnd P 0 x with
  | .tup xs => match xs[i]? with
    | some (x, .sh) => pure { wr := [(d, .at x .sh)] }
    | _ => Rd.fail
  | _ => Rd.fail

/-- Which operator: of bools, '==' and '!=' are their own. -/
def binX (P : Program) (op : BinOp) (t : TypeId) : Xo :=
  match op, P.underlying t with
  | .eql, some .bool => .beq false
  | .neq, some .bool => .beq true
  | _, _ => .bin op t

/-- One operation. C: the functions' shapes; nv: how many names there are. -/
def opStep (P : Program) (C : Nat → Option Sig) (nv : Nat) (o : Oper) : Rd Step :=
  match o.op with
  | .move x => do stMove P (← dstOf o.dst) o.type x
  | .assign x => stAssign P o.dst o.type x
  | .box t x => do stBox P nv (← dstOf o.dst) t x
  | .alloc t => do stAlloc P (← dstOf o.dst) t
  | .load t x => do stLoad P nv (← dstOf o.dst) t x
  | .store t p x => do
    Rd.guard (o.dst == none)
    stStore P nv t p x
  | .nilCheck x => do stNilCheck P (← dstOf o.dst) x
  | .fieldAddr s x f => do stFieldAddr P (← dstOf o.dst) s x f
  | .indexAddr t x i => do stIndexAddr P nv (← dstOf o.dst) t x i
  | .makeSlice t x y => do stMakeSlice P nv (← dstOf o.dst) t x y
  | .convert s t x => do stConvert P nv (← dstOf o.dst) s t x
  | .binOp op t x y u => do stE2 P nv (← dstOf o.dst) (binX P op t) t x u y
  | .unOp op t x => do stE1 P nv (← dstOf o.dst) (.un op) t x
  | .pick c x y => do stPick P nv (← dstOf o.dst) o.type c x y
  | .build t ps => do stBuild P nv (← dstOf o.dst) t ps.toList
  | .buildSlice t n ps => do stBuildSlice P nv (← dstOf o.dst) t n ps.toList
  | .call { callee := .builtin .append, args := ⟨[x, y]⟩, argTypes := ⟨[t, u]⟩ } => do
    Rd.guard (t == u)
    stAppend P nv (← dstOf o.dst) t x y
  | .call { callee := .builtin .len, args := ⟨[x]⟩, argTypes := ⟨[t]⟩ } => do stLen P nv (← dstOf o.dst) t x
  | .call { callee := .value (.func f), args := ⟨xs⟩, argTypes := ⟨ts⟩ } => do stCall P C nv (← dstOf o.dst) f ts xs
  | .extract x i => do stExtract P (← dstOf o.dst) x i
  | _ => Rd.fail

/-- Whose rows a slot's value is an alias of. -/
def roots : SV → Option (Bool × Nat)
  | .rf b r _ => some (b, r)
  | .pel b r _ _ _ _ => some (b, r)
  | .vw _ b r => some (b, r)
  | _ => none

/-- What is killed: (0, r) the aliases of slot r; (1, r) box r's address, and aliases; (2, r) box r's aliases. -/
def refers (k : Nat × Nat) (s : SV) : Bool :=
  match k.1 with
  | 0 => roots s == some (false, k.2)
  | 1 => roots s == some (true, k.2) || (match s with | .ptr r _ => r == k.2 | _ => false)
  | _ => roots s == some (true, k.2)

def Sg.kill (σ : Sg) (k : Nat × Nat) : Sg := { σ with slots := mapR (fun s => if refers k s then .undef else s) σ.slots }
def Sg.putS (σ : Sg) (x : Nat × SV) : Sg := { σ with slots := setR σ.slots x.1 x.2 }
def Sg.putB (σ : Sg) (x : Nat × Bx) : Sg := { σ with boxes := setR σ.boxes x.1 x.2 }

def Sg.apply (σ : Sg) (st : Step) : Sg :=
  st.wr.foldl Sg.putS (st.bx.foldl Sg.putB (st.kill.foldl Sg.kill σ))

end
end Go.Vm
