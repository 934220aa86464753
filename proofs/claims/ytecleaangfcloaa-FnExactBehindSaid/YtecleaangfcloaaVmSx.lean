/- The program's code, run on names: what it does to values, as a text of the language of values. Definitions, no statement. -/
import Derived.Test.YtecleaangfcloaaVmIr
namespace Go.Vm
set_option linter.unusedVariables false
set_option linter.unusedSimpArgs false

noncomputable section
/- Lists by their recursor: what the kernel reckons goes ten times as fast. -/
def setR.{u} {α : Type u} (l : List α) (i : Nat) (v : α) : List α :=
  List.rec (motive := fun _ => Nat → List α) (fun _ => []) (fun x xs ih i => Nat.rec (motive := fun _ => List α) (v :: xs) (fun j _ => x :: ih j) i) l i

def getL.{u} {α : Type u} (l : List α) (i : Nat) : Option α := l[i]?

def getR.{u} {α : Type u} (l : List α) (i : Nat) : Option α :=
  List.rec (motive := fun _ => Nat → Option α) (fun _ => none) (fun x _ ih i => Nat.rec (motive := fun _ => Option α) (some x) (fun j _ => ih j) i) l i

def mapR.{u, v} {α : Type u} {β : Type v} (f : α → β) (l : List α) : List β :=
  List.rec (motive := fun _ => List β) [] (fun x _ ih => f x :: ih) l

def allR.{u} {α : Type u} (l : List α) (p : α → Bool) : Bool :=
  List.rec (motive := fun _ => Bool) true (fun x _ ih => bif p x then ih else false) l

theorem setR_eq.{u} {α : Type u} : ∀ (l : List α) (i : Nat) (v : α), setR l i v = l.set i v
  | [], _, _ => rfl
  | x :: xs, 0, v => rfl
  | x :: xs, i + 1, v => by
    show x :: setR xs i v = _
    rw [setR_eq xs i v]; rfl

theorem getR_eq.{u} {α : Type u} : ∀ (l : List α) (i : Nat), getR l i = l[i]?
  | [], _ => rfl
  | x :: xs, 0 => rfl
  | x :: xs, i + 1 => by
    show getR xs i = _
    rw [getR_eq xs i]; simp

theorem mapR_eq.{u, v} {α : Type u} {β : Type v} (f : α → β) : ∀ (l : List α), mapR f l = l.map f
  | [] => rfl
  | x :: xs => by
    show f x :: mapR f xs = _
    rw [mapR_eq f xs]; rfl

theorem allR_eq.{u} {α : Type u} (p : α → Bool) : ∀ (l : List α), allR l p = l.all p
  | [] => rfl
  | x :: xs => by
    show (bif p x then allR xs p else false) = _
    rw [allR_eq p xs]; cases h : p x <;> simp [h]

/-- A captured address: a box's, or that of a place that nobody writes. -/
inductive Cp where
  | ptr (r : Nat)
  | psh (x : A)
  deriving DecidableEq, Inhabited

/-- A mark among the boxes: something was handed over; slices of owned rows are windows. -/
def movK : Nat := 1048576
/-- In place of an offset: not a pointer into the element, but the slice from there on. -/
def winK : Nat := 4294967296

/-- What a slot holds, by name. -/
inductive SV where
  | undef
  | void
  | at (x : A) (m : Md)
  | ptr (r off : Nat)
  | psh (x : A) (off : Nat)
  | rf (b : Bool) (r c : Nat) (ln : Option A)
  | pel (b : Bool) (r c : Nat) (m : Nat) (i : A) (off : Nat)
  | ea (x : A) (b : Bool) (r c m : Nat) (i : A) (off nn : Nat)
  | tup (xs : List (Option (A × Md)))
  | fn (g : Nat) (caps : List Cp)
  | ag (r off n : Nat)
  | anyb (ne : Bool) (x : A)
  | tp (r c : Nat)
  deriving Inhabited

/-- No component of a tuple owns. -/
def tupSh (xs : List (Option (A × Md))) : Bool := xs.all fun x => match x with
  | some (_, .sh) => true
  | some _ => false
  | none => true

/-- A slot that holds nothing owned. -/
def SV.free : SV → Bool
  | .at _ .sh => true
  | .at _ _ => false
  | .tup xs => tupSh xs
  | _ => true

abbrev Cell : Type := Option (A × Md)
abbrev Bx : Type := Option (List Cell)

structure Sg where
  slots : List SV
  boxes : List Bx
  dec : List (A × Bool)
  nv : Nat
  nl : Nat
  kp : List Nat := []
  kb : List (Nat × Nat) := []
  deriving Inhabited

/-- How a function takes a parameter: its value; the address of what nobody writes; nil: a nil row; a function, with n captured addresses of what nobody writes. -/
inductive PK where
  | val
  | rd
  | fn (g n : Nat)
  | nil
  deriving DecidableEq, Inhabited

/-- How many names a parameter brings. -/
def PK.n : PK → Nat
  | .fn _ n => n
  | .nil => 0
  | _ => 1

/-- What a function is lent: a value of code τ that owns all its rows; or a variable of code τ, by its address, its cells of mode m, of mode m' when it comes back. -/
inductive Lk where
  | row (τ : Ty)
  | box (τ : Ty) (m m' : Md)
  | mov (τ : Ty) (m : Md)
  deriving DecidableEq, Inhabited

def Lk.ty : Lk → Ty
  | .row τ => τ
  | .box τ _ _ => τ
  | .mov τ _ => τ

/-- Handed over for good. -/
def Lk.isMov : Lk → Bool
  | .mov _ _ => true
  | _ => false

/-- A function's shape: parameters, the codes and modes of the results; lt: what it is lent, and as which parameter (pk tells the others); nb: the result is the address of a new variable. -/
structure Sig where
  pk : List PK
  rt : List (Ty × Md)
  deep : Bool := false
  lt : Option (Nat × Lk) := none
  nb : Bool := false
  deriving Inhabited

/-- How many names the parameters bring that are not lent. -/
def Sig.nin0 (s : Sig) : Nat := s.pk.foldr (fun k n => k.n + n) 0

def Sig.nin (s : Sig) : Nat := match s.lt with | none => s.nin0 | some _ => s.nin0 + 1

/-- How many parameters. -/
def Sig.np (s : Sig) : Nat := match s.lt with | none => s.pk.length | some _ => s.pk.length + 1

/-- The codes of what is given back. -/
def Sig.tys (s : Sig) : List Ty := match s.lt with | none => s.rt.map (·.1) | some (_, q) => if q.isMov then s.rt.map (·.1) else s.rt.map (·.1) ++ [q.ty]

/-- The p-th put in, or left out. -/
def ins {α : Type} (p : Nat) (x : α) (l : List α) : List α := l.take p ++ x :: l.drop p
def del {α : Type} (p : Nat) (l : List α) : List α := l.take p ++ l.drop (p + 1)

inductive Em where
  | e (x : Ex)
  | call (f : Nat) (xs : List A) (n : Nat)
  deriving Inhabited

/-- One operation's doing. -/
structure Step where
  em : List Em := []
  wr : List (Nat × SV) := []
  bx : List (Nat × Bx) := []
  kill : List (Nat × Nat) := []
  deriving Inhabited

def Md.isSh : Md → Bool
  | .sh => true
  | _ => false

/-- The mode of cell c. -/
def Md.cell : Md → Nat → Md
  | m, 0 => m.l
  | m, c + 1 => m.r.cell c

/-- What reads the state: which slots and boxes it has read is kept. -/
def Rd (α : Type) : Type := Sg → Option (α × List (Bool × Nat))

namespace Rd
variable {α β : Type}
def pure (a : α) : Rd α := fun _ => some (a, [])
def fail : Rd α := fun _ => none
def bind (x : Rd α) (f : α → Rd β) : Rd β := fun σ => match x σ with
  | some (a, l) => match f a σ with
    | some (b, l') => some (b, l ++ l')
    | none => none
  | none => none
def slot (i : Nat) : Rd SV := fun σ => match getR σ.slots i with | some s => some (s, [(false, i)]) | none => none
def slotK (i : Nat) : Rd SV := fun σ => if σ.kp.contains i then none else match getR σ.slots i with | some s => some (s, [(false, i)]) | none => none
def box (i : Nat) : Rd (List Cell) := fun σ => match getR σ.boxes i with | some (some b) => some (b, [(true, i)]) | _ => none
/-- A box that no parameter is kept in. -/
def boxAny (i : Nat) : Rd Bx := fun σ => if σ.kb.all (fun x => x.1 != i) then (match getR σ.boxes i with | some b => some (b, [(true, i)]) | _ => none) else none
/-- Are slices of owned rows windows? -/
def flag : Rd Bool := fun σ => some (σ.kb.any (fun x => x.1 == movK), [])
def boxW (i : Nat) : Rd (List Cell) := fun σ => if σ.kb.all (fun x => x.1 != i) then (match getR σ.boxes i with | some (some b) => some (b, [(true, i)]) | _ => none) else none
def forB (kp : List Nat) (x : Operand) (p : Nat) : Bool := match x with
  | .tmp q => p == q && kp.contains q
  | _ => false
/-- A box that x is put into; of a parameter that is lent: it is kept there. -/
def boxFor (i : Nat) (x : Operand) : Rd Bx := fun σ => if σ.kb.all (fun y => y.1 != i || forB σ.kp x y.2) then (match getR σ.boxes i with | some b => some (b, [(true, i)]) | _ => none) else none
/-- What is read of a tuple's component, of a box's cell: its code. -/
def fineC (r c : Nat) : Nat := 1024 + (r * 64 + c)
/-- Cell c of box r alone. -/
def cell (r c : Nat) : Rd (Option Cell) := fun σ => match getR σ.boxes r with
  | some (some b) => some (b[c]?, [(true, if c < 64 then fineC r c else r)])
  | _ => none
/-- Component c of the tuple in slot r alone. -/
def comp (r c : Nat) : Rd (Option (Option (A × Md))) := fun σ => match getR σ.slots r with
  | some (.tup xs) => some (xs[c]?, [(false, if c < 64 then fineC r c else r)])
  | _ => none
def kp : Rd (List Nat) := fun σ => some (σ.kp, [])
def kb : Rd (List (Nat × Nat)) := fun σ => some (σ.kb, [])
def ofO (o : Option α) : Rd α := fun _ => match o with | some a => some (a, []) | none => none
def guard (b : Bool) : Rd Unit := fun _ => if b then some ((), []) else none
instance : Monad Rd where
  pure := Rd.pure
  bind := Rd.bind
end Rd

/-- A constant, by name. -/
def constA (P : Program) (t : TypeId) : Value → Option A
  | .int k n => some (.int k n)
  | .bool b => some (.bool b)
  | .string s => some (.str (s.data.toList.map (·.toNat)))
  | .slice none 0 0 => match tyD P t with | some (.sl e) => some (.nil e) | _ => none
  | _ => none

/-- A nil slice is owned. -/
def constM : A → Md
  | .nil e => .own (Md.deep e)
  | _ => .sh

def opnd (P : Program) (t : TypeId) : Operand → Rd SV
  | .tmp i => Rd.slot i
  | .const v => Rd.ofO ((constA P t v).map fun a => .at a (constM a))
  | .func f => pure (.fn f [])
  | _ => Rd.fail

/-- The value of an operand, to be read alone. -/
def look (P : Program) (t : TypeId) (x : Operand) : Rd A := do
  match ← opnd P t x with
  | .at x _ => pure x
  | .ea x _ _ _ _ _ _ _ => pure x
  | .tp r c => match ← Rd.comp r c with
    | some (some (x, _)) => pure x
    | _ => Rd.fail
  | .rf false r _ _ => match ← Rd.slot r with
    | .at x (.own _) => pure x
    | _ => Rd.fail
  | .rf true r c ln => match ← Rd.cell r c with
    | some (some (x, .own _)) => pure x
    | _ => Rd.fail
  | _ => Rd.fail

/-- The value of an operand, which nobody writes. -/
def lookSh (P : Program) (t : TypeId) (x : Operand) : Rd A := do
  match ← opnd P t x with
  | .at x .sh => pure x
  | .at (.nil e) (.own _) => pure (.nil e)
  | _ => Rd.fail

/-- A struct type's field: its first cell, its type. -/
def fieldOf (P : Program) (s : TypeId) (f : Nat) : Option (Nat × TypeId) :=
  match P.underlying s with
  | some (.struct fs) => (fs[f]?).map fun f => (f.offset, f.type)
  | _ => none

def isAggB (P : Program) (t : TypeId) : Bool :=
  match P.underlying t with
  | some (.struct _) => true
  | _ => false

def notAggB (P : Program) (t : TypeId) : Bool :=
  match P.underlying t with
  | some (.struct _) | some (.array _ _) | none => false
  | _ => true

def elemOf (P : Program) (t : TypeId) : Option TypeId :=
  match P.underlying t with
  | some (.slice e) => some e
  | _ => none

/-- The cells that are known. -/
def knownA : List Cell → Option (List A)
  | [] => some []
  | some (x, _) :: cs => (knownA cs).map (x :: ·)
  | none :: _ => none

/-- The owned row that an alias is of: its name, its elements' mode. -/
def rootA (b : Bool) (r c : Nat) : Rd (A × Md) :=
  match b with
  | false => do
    match ← Rd.slot r with
    | .at x (.own m) => pure (x, m)
    | _ => Rd.fail
  | true => do
    match ← Rd.cell r c with
    | some (some (x, .own m)) => pure (x, m)
    | _ => Rd.fail

/-- Are the modes of cells off .. all 'nobody writes'? -/
def cellsSh (m : Md) (off : Nat) : Nat → Bool
  | 0 => true
  | n + 1 => (m.cell off).isSh && cellsSh m (off + 1) n

/-- The codes of a struct's cells. -/
def tyCells : Ty → List Ty
  | .unit => []
  | .pair a b => a :: tyCells b
  | t => [t]

def zeroA : Ty → Option A
  | .int k => some (.int k 0)
  | .bool => some (.bool false)
  | .str => some (.str [])
  | .sl e => some (.nil e)
  | _ => none

def zeroCells (τ : Ty) : Option (List Cell) := (tyCells τ).mapM fun t => (zeroA t).map fun a => some (a, constM a)

/-- n cells of a, from off on, by name. -/
def cellsM (a : A) : Nat → Md → Nat → List Cell
  | _, _, 0 => []
  | off, m, n + 1 => some (.fld a off, m.l) :: cellsM a (off + 1) m.r n

def Cell.isOwn : Cell → Bool
  | some (_, m) => !m.isSh
  | none => false

/-- The cells that are known, all with rows that nobody writes. -/
def shCells : List Cell → Option (List A)
  | [] => some []
  | some (x, .sh) :: cs => (shCells cs).map (x :: ·)
  | some (.nil e, .own _) :: cs => (shCells cs).map (.nil e :: ·)
  | _ => none

/-- A type's zero value is just these cells. -/
def zeroOk (P : Program) (t : TypeId) (cs : List Cell) : Bool :=
  match P.info? t with
  | some i => match i.zero with
    | some z => (z.cells.toList.zip cs).all (fun x => match x with
        | (.int k 0, some (.int k' 0, .sh)) => k == k'
        | (.bool false, some (.bool false, .sh)) => true
        | (.string s, some (.str [], .sh)) => s.size == 0
        | (.slice none 0 0, some (.nil _, .own _)) => true
        | _ => false) && z.cells.size == cs.length
    | none => false
  | none => false

/-- A value of mode m' may be handed out as one of mode m. -/
def coeR (x : A) (m m' : Md) : Bool :=
  m == m' || (match x, m, m' with
    | .nil _, .own _, .own _ => true
    | .nil _, .sh, .own _ => true
    | _, _, _ => false)

/-- The cells are those of a struct of mode m; their names. -/
def matchM : Md → List Cell → Option (List A)
  | _, [] => some []
  | m, some (x, m') :: cs => if coeR x m.l m' then (matchM m.r cs).map (x :: ·) else none
  | _, none :: _ => none

/-- A slot that is to be written. -/
def dstOf (o : Option Tmp) : Rd Nat := do
  let d ← Rd.ofO o
  let s ← Rd.slot d
  let kp ← Rd.kp
  Rd.guard (s.free && !kp.contains d)
  pure d

/-- Where a value is made. -/
def putE (d : Nat) (nv : Nat) (op : Xo) (args : List A) : Step := { em := [.e ⟨op, args⟩], wr := [(d, .at (.var nv) .sh)] }

/-- Whose rows a slot's value is an alias of. -/
def roots : SV → Option (Bool × Nat)
  | .rf b r _ _ => some (b, r)
  | .pel b r _ _ _ _ => some (b, r)
  | .ea _ b r _ _ _ _ _ => some (b, r)
  | .tp r _ => some (false, r)
  | .ag r _ _ => some (true, r)
  | _ => none

/-- Does a slot hold box r's address? -/
def SV.hasPtr (r : Nat) (s : SV) : Bool :=
  match s with
  | .ptr q _ => q == r
  | .fn _ cs => cs.any fun c => match c with | .ptr q => q == r | _ => false
  | _ => false

/-- Is it a row inside an element of the row in slot r (b: box r)? -/
def SV.isEl (b : Bool) (r : Nat) : SV → Bool
  | .ea _ b' r' _ _ _ _ _ => b == b' && r == r'
  | _ => false

/-- Is it the component of a tuple that the code names? -/
def SV.isTp (k : Nat) : SV → Bool
  | .tp r c => r * 64 + c == k
  | _ => false

/-- What is killed: (7, 64 r + c): the aliases of component c of slot r's tuple; (0, r) the aliases of slot r; (1, r) box r's address, and aliases; (2, r) box r's aliases; (5, r), (6, r): what lies inside the elements of slot r's row, of box r's rows. -/
def codeC (off n : Nat) : Nat := 16 + (off * 4096 + n)

/-- An alias of a cell outside. -/
def SV.apart (off n : Nat) : SV → Bool
  | .rf _ _ c _ => decide (c < off) || decide (off + n ≤ c)
  | .pel _ _ c _ _ _ => decide (c < off) || decide (off + n ≤ c)
  | _ => false

def refers (k : Nat × Nat) (s : SV) : Bool :=
  match k.1 with
  | 0 => roots s == some (false, k.2)
  | 1 => roots s == some (true, k.2) || s.hasPtr k.2
  | 5 => s.isEl false k.2
  | 6 => s.isEl true k.2
  | 7 => s.isTp k.2
  | j + 16 => roots s == some (true, k.2) && !s.apart (j / 4096) (j % 4096)
  | _ => roots s == some (true, k.2)

def Sg.kill (σ : Sg) (k : Nat × Nat) : Sg := { σ with slots := mapR (fun s => if refers k s then .undef else s) σ.slots }
def Sg.putS (σ : Sg) (x : Nat × SV) : Sg := { σ with slots := setR σ.slots x.1 x.2 }
def Sg.putB (σ : Sg) (x : Nat × Bx) : Sg := { σ with boxes := setR σ.boxes x.1 x.2 }

/-- How many names are given. -/
def emN : List Em → Nat
  | [] => 0
  | .e _ :: es => emN es + 1
  | .call _ _ n :: es => emN es + n

/-- A value taken from where it is owned. -/
structure Take where
  x : A
  m : Md
  em : List Em := []
  wr : List (Nat × SV) := []
  bx : List (Nat × Bx) := []
  kill : List (Nat × Nat) := []
  deriving Inhabited

/-- What a taken value leaves behind. -/
def Sg.take (σ : Sg) (k : Take) : Sg := k.wr.foldl Sg.putS (k.bx.foldl Sg.putB (k.kill.foldl Sg.kill σ))

/-- What is read when something was taken. -/
def Rd.under {α : Type} (k : Take) (x : Rd α) : Rd α := fun σ => x (σ.take k)

/-- One value taken, then another. -/
def Take.and (k k' : Take) : Take := { x := k'.x, m := k'.m, em := k.em ++ k'.em, wr := k.wr ++ k'.wr, bx := k.bx ++ k'.bx, kill := k.kill ++ k'.kill }

def Take.nil : Take := { x := .int .i64 0, m := .sh }

/-- A struct's mode, out of its cells'. -/
def mkMd : List Cell → Md
  | [] => .sh
  | none :: cs => mkMd cs
  | some (_, m) :: cs => if m.isSh && (mkMd cs).isSh then .sh else .pair m (mkMd cs)

/-- n cells from off on are taken away. -/
def noneR (off n : Nat) (cs : List Cell) : List Cell := cs.take off ++ List.replicate n none ++ cs.drop (off + n)

/-- What is left of a cell that was taken: what nobody writes stays. -/
def Cell.loose : Cell → Cell
  | some (x, m) => if m.isSh then some (x, m) else none
  | none => none

/-- n cells from off on are taken; what nobody writes stays. -/
def looseR (off n : Nat) (cs : List Cell) : List Cell := cs.take off ++ ((cs.drop off).take n).map Cell.loose ++ cs.drop (off + n)

/-- Nobody writes any more what a cell owned. -/
def Cell.froz : Cell → Cell
  | some (x, _) => some (x, .sh)
  | none => none

/-- The slot of an operand is to hold s. -/
def wrOf (x : Operand) (s : SV) : List (Nat × SV) :=
  match x with
  | .tmp j => [(j, s)]
  | _ => []

def takeV (P : Program) (nv : Nat) (t : TypeId) (x : Operand) : Rd Take := do
  match ← opnd P t x with
  | .at y .sh => pure { x := y, m := .sh }
  | .at y m => match x with
    | .tmp s => pure { x := y, m := m, wr := [(s, .undef)], kill := [(0, s)] }
    | _ => pure { x := y, m := m }
  | .rf false r _ _ => match ← Rd.slot r with
    | .at y (.own m) => pure { x := y, m := .own m, wr := (r, .undef) :: wrOf x .undef, kill := [(0, r)] }
    | _ => Rd.fail
  | .rf true r c ln => do
    let b ← Rd.box r
    match b[c]? with
    | some (some (y, .own m)) => pure { x := y, m := .own m, wr := wrOf x .undef, bx := [(r, some (b.set c none))], kill := [(2, r)] }
    | _ => Rd.fail
  | .ag r off n => do
    let b ← Rd.box r
    let xs ← Rd.ofO (knownA ((b.drop off).take n))
    Rd.guard (n < 4096)
    pure { x := .var nv, m := mkMd ((b.drop off).take n), em := [.e ⟨.mk, xs⟩], wr := wrOf x .undef, bx := [(r, some (looseR off n b))], kill := [(codeC off n, r)] }
  | .tp r c => match ← Rd.slot r with
    | .tup xs => match xs[c]? with
      | some (some (y, m)) => do
        Rd.guard (!m.isSh)
        pure { x := y, m := m, wr := (r, .tup (xs.set c none)) :: wrOf x .undef, kill := [(7, r * 64 + c)] }
      | _ => Rd.fail
    | _ => Rd.fail
  | _ => Rd.fail

/-- A value is read; from now on nobody writes what it owns. -/
def frzV (P : Program) (nv : Nat) (t : TypeId) (x : Operand) : Rd Take := do
  match ← opnd P t x with
  | .at y .sh => pure { x := y, m := .sh }
  | .at y _ => match x with
    | .tmp s => pure { x := y, m := .sh, wr := [(s, .at y .sh)], kill := [(0, s)] }
    | _ => pure { x := y, m := .sh }
  | .rf false r _ _ => match ← Rd.slot r with
    | .at y (.own _) => pure { x := y, m := .sh, wr := (r, .at y .sh) :: wrOf x (.at y .sh), kill := [(0, r)] }
    | _ => Rd.fail
  | .rf true r c ln => do
    let b ← Rd.box r
    match b[c]? with
    | some (some (y, .own _)) => pure { x := y, m := .sh, wr := wrOf x (.at y .sh), bx := [(r, some (b.set c (some (y, .sh))))], kill := [(2, r)] }
    | _ => Rd.fail
  | .ag r off n => do
    let b ← Rd.box r
    let xs ← Rd.ofO (knownA ((b.drop off).take n))
    Rd.guard (n < 4096)
    pure { x := .var nv, m := .sh, em := [.e ⟨.mk, xs⟩], wr := wrOf x .undef, bx := [(r, some (b.take off ++ ((b.drop off).take n).map Cell.froz ++ b.drop (off + n)))], kill := [(codeC off n, r)] }
  | .tp r c => match ← Rd.slot r with
    | .tup xs => match xs[c]? with
      | some (some (y, m)) => do
        Rd.guard (!m.isSh)
        pure { x := y, m := .sh, wr := (r, .tup (xs.set c none)) :: wrOf x (.at y .sh), kill := [(7, r * 64 + c)] }
      | _ => Rd.fail
    | _ => Rd.fail
  | _ => Rd.fail

/-- A value of mode m' may be taken for one of mode m. -/
def coe (x : A) (m m' : Md) : Bool :=
  m == m' || (match x, m, m' with
    | .nil _, .own _, .own _ => true
    | _, _, _ => false)

/-- A value is taken, to be one of mode m. -/
def fitV (P : Program) (nv : Nat) (t : TypeId) (x : Operand) (m : Md) : Rd Take :=
  if m.isSh then frzV P nv t x else do
    let k ← takeV P nv t x
    Rd.guard (coe k.x m k.m)
    pure { k with m := m }

/-- The mode of a row's elements. -/
def elMd (dp : Bool) (τ : Ty) : Md := if dp then Md.deep τ else .sh

/-- A value is read into a slot; a row that is owned stays where it is. -/
def stMove (P : Program) (nv d : Nat) (t : TypeId) (x : Operand) : Rd Step := do
  match ← opnd P t x with
  | .at x .sh => pure { wr := [(d, .at x .sh)] }
  | .ptr r f => pure { wr := [(d, .ptr r f)] }
  | .psh x f => pure { wr := [(d, .psh x f)] }
  | .fn g cs => pure { wr := [(d, .fn g cs)] }
  | .at _ (.own _) => match x with
    | .tmp s => do
      Rd.guard (s != d)
      pure { wr := [(d, .rf false s 0 none)] }
    | _ => do
      let k ← takeV P nv t x
      pure { wr := [(d, .at k.x k.m)] }
  | .at _ (.pair _ _) => do
    let k ← takeV P nv t x
    pure { em := k.em, kill := k.kill, bx := k.bx, wr := k.wr ++ [(d, .at k.x k.m)] }
  | .ag r f n => pure { wr := [(d, .ag r f n)] }
  | .tup xs => match x with
    | .tmp s => do
      Rd.guard (s != d)
      pure { kill := [(0, s)], wr := [(s, .undef), (d, .tup xs)] }
    | _ => Rd.fail
  | .tp r c => do
    Rd.guard (r != d)
    pure { wr := [(d, .tp r c)] }
  | .rf b r c ln => do
    Rd.guard (!(b == false && r == d))
    pure { wr := [(d, .rf b r c ln)] }
  | _ => Rd.fail

/-- A nil address. -/
def nilPtr : Operand → Bool
  | .const (.pointer none) => true
  | _ => false

/-- A slot is assigned: what was owned elsewhere is owned here. -/
def stAssign (P : Program) (nv : Nat) (o : Option Tmp) (t : TypeId) (x : Operand) : Rd Step := if nilPtr x then do
  let d ← dstOf o
  pure { wr := [(d, .undef)] }
else do
  let d ← Rd.ofO o
  match ← opnd P t x with
  | .ptr r f => do
    let d ← dstOf o
    pure { wr := [(d, .ptr r f)] }
  | .psh x f => do
    let d ← dstOf o
    pure { wr := [(d, .psh x f)] }
  | .fn g cs => do
    let d ← dstOf o
    pure { wr := [(d, .fn g cs)] }
  | _ => do
    let k ← takeV P nv t x
    let _ ← Rd.slotK d
    pure { em := k.em, kill := k.kill ++ [(0, d)], bx := k.bx, wr := k.wr ++ [(d, .undef), (d, .at k.x k.m)] }

def stBox (P : Program) (nv d : Nat) (t : TypeId) (x : Operand) : Rd Step := do
  let k ← takeV P nv t x
  let _ ← Rd.boxFor d x
  Rd.guard (k.bx.all fun y => y.1 != d)
  pure { em := k.em ++ [.e ⟨.all (P.cellsOf t), [k.x]⟩], kill := k.kill ++ [(1, d)], bx := k.bx ++ [(d, some (cellsM (.var (nv + emN k.em)) 0 k.m (P.cellsOf t)))], wr := k.wr ++ [(d, .ptr d 0)] }

def stAlloc (P : Program) (d : Nat) (t : TypeId) : Rd Step := do
  let τ ← Rd.ofO (tyD P t)
  let cs ← Rd.ofO (zeroCells τ)
  let _ ← Rd.boxAny d
  Rd.guard (zeroOk P t cs)
  pure { wr := [(d, .ptr d 0)], bx := [(d, some cs)], kill := [(1, d)] }

def stLoad (P : Program) (nv d : Nat) (t : TypeId) (x : Operand) : Rd Step := do
  match ← opnd P 0 x with
  | .ptr r f =>
    if isAggB P t then
      let b ← Rd.box r
      let n := P.cellsOf t
      Rd.guard (f + n ≤ b.length && n != 0)
      match shCells ((b.drop f).take n) with
      | some xs => pure (putE d nv .mk xs)
      | none => do
        Rd.guard (((b.drop f).take n).any Cell.isOwn)
        pure { wr := [(d, .ag r f n)] }
    else do
      Rd.guard (notAggB P t)
      match ← Rd.cell r f with
      | some (some (x, .sh)) => pure { wr := [(d, .at x .sh)] }
      | some (some (x, .own _)) => pure { em := [.e ⟨.len, [x]⟩], wr := [(d, .rf true r f (some (.var nv)))] }
      | _ => Rd.fail
  | .pel b r c m i f => do
    let (x, mm) ← rootA b r c
    let n := P.cellsOf t
    Rd.guard (n != 0 && f != winK)
    if isAggB P t then
      if mm.isSh then
        pure { em := [.e ⟨.idx m, [x, i]⟩, .e ⟨.cells f n, [.var nv]⟩], wr := [(d, .at (.var (nv + 1)) .sh)] }
      else do
        Rd.guard (!(b == false && r == d))
        pure { em := [.e ⟨.idx m, [x, i]⟩, .e ⟨.cells f n, [.var nv]⟩], wr := [(d, .ea (.var (nv + 1)) b r c m i f n)] }
    else do
      Rd.guard (notAggB P t && n == 1)
      if (mm.cell f).isSh then
        pure { em := [.e ⟨.idx m, [x, i]⟩, .e ⟨.a, [.fld (.var nv) f]⟩], wr := [(d, .at (.var (nv + 1)) .sh)] }
      else do
        Rd.guard (!(b == false && r == d))
        pure { em := [.e ⟨.idx m, [x, i]⟩, .e ⟨.a, [.fld (.var nv) f]⟩], wr := [(d, .ea (.var (nv + 1)) b r c m i f 0)] }
  | .psh x f =>
    if isAggB P t then do
      Rd.guard (P.cellsOf t != 0)
      pure (putE d nv (.cells f (P.cellsOf t)) [x])
    else do
      Rd.guard (notAggB P t)
      pure (putE d nv .a [.fld x f])
  | _ => Rd.fail

def stStore (P : Program) (nv : Nat) (t : TypeId) (p x : Operand) : Rd Step := do
  match ← opnd P 0 p with
  | .ptr r f =>
    let k ← takeV P nv t x
    let b ← Rd.boxW r
    let n := P.cellsOf t
    Rd.guard (k.bx.all fun y => y.1 != r)
    if isAggB P t then
      Rd.guard (f + n ≤ b.length && n != 0)
      pure { em := k.em ++ [.e ⟨.all n, [k.x]⟩], kill := k.kill ++ (if b.any Cell.isOwn then [(2, r)] else []), bx := k.bx ++ [(r, some (b.take f ++ cellsM (.var (nv + emN k.em)) 0 k.m n ++ b.drop (f + n)))], wr := k.wr }
    else
      Rd.guard (f + 1 ≤ b.length && n == 1)
      pure { em := k.em ++ [.e ⟨.atom, [k.x]⟩], kill := k.kill ++ (if b.any Cell.isOwn then [(2, r)] else []), bx := k.bx ++ [(r, some (b.take f ++ [some (.var (nv + emN k.em), k.m)] ++ b.drop (f + 1)))], wr := k.wr }
  | .pel b r c m i f => do
    let (x0, mm) ← rootA b r c
    let n := P.cellsOf t
    let y ← fitV P nv t x (if f == 0 && n == m then mm else mm.cell f)
    Rd.guard (f != winK && m != 0 && n != 0 && (mm.isSh || (f == 0 && n == m) || (n == 1 && notAggB P t)) && (y.wr.all fun z => b || z.1 != r) && (y.bx.all fun z => !b || z.1 != r))
    let e : Em := if f == 0 && n == m then .e ⟨.setE m, [x0, i, y.x]⟩ else .e ⟨.set m f n, [x0, i, y.x]⟩
    match b with
    | false => pure { em := y.em ++ [e], kill := y.kill ++ [(5, r)], bx := y.bx, wr := y.wr ++ [(r, .at (.var (nv + emN y.em)) (.own mm))] }
    | true => do
      let bx ← Rd.box r
      pure { em := y.em ++ [e], kill := y.kill ++ [(6, r)], bx := y.bx ++ [(r, some (bx.set c (some (.var (nv + emN y.em), .own mm))))], wr := y.wr }
  | _ => Rd.fail

def stNilCheck (P : Program) (d : Nat) (x : Operand) : Rd Step := do
  match ← opnd P 0 x with
  | .ptr r f => pure { wr := [(d, .ptr r f)] }
  | _ => Rd.fail

def stFieldAddr (P : Program) (d : Nat) (s : TypeId) (x : Operand) (f : Nat) : Rd Step := do
  let (off, ft) ← Rd.ofO (fieldOf P s f)
  Rd.guard (P.cellsOf ft != 0)
  match ← opnd P 0 x with
  | .ptr r g => pure { wr := [(d, .ptr r (g + off))] }
  | .psh x g => pure { wr := [(d, .psh x (g + off))] }
  | .pel b r c m i g => do
    Rd.guard (!(b == false && r == d) && g != winK && g + off != winK)
    pure { wr := [(d, .pel b r c m i (g + off))] }
  | _ => Rd.fail

def stIndexAddr (P : Program) (nv d : Nat) (t : TypeId) (x i : Operand) : Rd Step := do
  let e ← Rd.ofO (elemOf P t)
  let i ← look P 0 i
  Rd.guard (P.cellsOf e != 0)
  match ← opnd P t x with
  | .rf b r c ln => do
    let (v, _) ← rootA b r c
    Rd.guard (!(b == false && r == d))
    pure { em := [.e ⟨.idx (P.cellsOf e), [v, i]⟩], wr := [(d, .pel b r c (P.cellsOf e) i 0)] }
  | .at v (.own _) => do
    let s ← Rd.ofO (match x with | .tmp s => some s | _ => none)
    pure { em := [.e ⟨.idx (P.cellsOf e), [v, i]⟩], wr := [(d, .pel false s 0 (P.cellsOf e) i 0)] }
  | _ => do
    let v ← lookSh P t x
    pure { em := [.e ⟨.idx (P.cellsOf e), [v, i]⟩], wr := [(d, .psh (.var nv) 0)] }

def stE1 (P : Program) (nv d : Nat) (op : Xo) (t : TypeId) (x : Operand) : Rd Step := do
  let a ← look P t x
  pure (putE d nv op [a])

def lenSame (x y : Operand) : Bool :=
  match x, y with
  | .tmp i, .tmp j => i == j
  | .const (.int _ n), .const (.int _ m) => n == m
  | _, _ => false

/-- A zero value's mode. -/
def zMd (τ : Ty) (cs : List Cell) : Md :=
  if τ.isAgg then mkMd cs else match cs with
    | [some (_, m)] => m
    | _ => .sh

def stMakeSlice (P : Program) (dp : Bool) (nv d : Nat) (t : TypeId) (x y : Operand) : Rd Step := do
  let e ← Rd.ofO (elemOf P t)
  let τ ← Rd.ofO (tyD P e)
  let n ← look P 0 x
  Rd.guard (lenSame x y && P.cellsOf e == τ.n && τ.n != 0 && P.bytesOf e ≤ 32768)
  let cs ← Rd.ofO (zeroCells τ)
  let zs ← Rd.ofO (shCells cs)
  Rd.guard (zeroOk P e cs && (!dp || zMd τ cs == Md.deep τ))
  if τ.isAgg then
    pure { em := [.e ⟨.mk, zs⟩, .e ⟨.rep τ, [n, .var nv]⟩], wr := [(d, .at (.var (nv + 1)) (.own (elMd dp τ)))] }
  else match zs with
    | [z] => pure { em := [.e ⟨.rep τ, [n, z]⟩], wr := [(d, .at (.var nv) (.own (elMd dp τ)))] }
    | _ => Rd.fail

/-- The elements of a row, all with rows that nobody writes. -/
def lookEl (P : Program) (t : TypeId) (x : Operand) : Rd A := do
  match ← opnd P t x with
  | .at x .sh => pure x
  | .at x (.own .sh) => pure x
  | .at (.nil e) (.own _) => pure (.nil e)
  | .rf b r c ln => do
    let (x, m) ← rootA b r c
    Rd.guard m.isSh
    pure x
  | _ => Rd.fail

/-- A row to be written, its elements of mode e. -/
def appOk (e : Md) (x : A) : Md → Bool
  | .own m => m == e || (match x with
    | .nil _ => true
    | _ => false)
  | _ => false

/-- The elements of a row, to be put into one whose elements' mode is e. -/
def elV (P : Program) (nv : Nat) (e : Md) (t : TypeId) (x : Operand) : Rd Take := do
  if e.isSh then match ← opnd P t x with
    | .at y (.own .sh) => pure { x := y, m := .own .sh }
    | .rf _ _ _ _ => do
      let y ← lookEl P t x
      pure { x := y, m := .own .sh }
    | _ => frzV P nv t x
  else do
    let k ← takeV P nv t x
    Rd.guard (appOk e k.x k.m)
    pure { k with m := .own e }

/-- A type's zero value has n cells. -/
def zOk (P : Program) (e : TypeId) (n : Nat) : Bool :=
  match P.info? e with
  | some i => match i.zero with
    | some z => z.cells.size == n
    | none => false
  | none => false

def stAppend (P : Program) (dp : Bool) (nv d : Nat) (t : TypeId) (x y : Operand) : Rd Step := do
  let e ← Rd.ofO (elemOf P t)
  let τ ← Rd.ofO (tyD P e)
  Rd.guard (P.cellsOf e == τ.n && τ.n != 0 && P.bytesOf e ≤ 32768 && zOk P e τ.n)
  let k ← takeV P nv t x
  Rd.guard (appOk (elMd dp τ) k.x k.m)
  let b ← Rd.under k (elV P (nv + emN k.em) (elMd dp τ) t y)
  pure { em := (k.and b).em ++ [.e ⟨.app τ, [k.x, b.x]⟩], kill := (k.and b).kill, bx := (k.and b).bx, wr := (k.and b).wr ++ [(d, .at (.var (nv + emN (k.and b).em)) (.own (elMd dp τ)))] }

/-- A row's parts, one behind the other, each to be of mode m. -/
def fitParts (P : Program) (nv : Nat) (e : TypeId) (m : Md) : Nat → Take → List (Nat × Operand) → Rd (List A × Take)
  | i, k, (j, x) :: xs => do
    Rd.guard (i == j)
    let k' ← Rd.under k (fitV P (nv + emN k.em) e x m)
    let r ← fitParts P nv e m (i + 1) (k.and k') xs
    pure (k'.x :: r.1, r.2)
  | _, k, [] => pure ([], k)

def stBuildSlice (P : Program) (dp : Bool) (nv d : Nat) (t : TypeId) (n : Nat) (ps : List (Nat × Operand)) : Rd Step := do
  let e ← Rd.ofO (elemOf P t)
  let τ ← Rd.ofO (tyD P e)
  Rd.guard (P.cellsOf e == τ.n && τ.n != 0 && n * τ.n ≤ 2 ^ 24 && zOk P e τ.n && n == ps.length)
  let r ← fitParts P nv e (elMd dp τ) 0 .nil ps
  pure { em := r.2.em ++ [.e ⟨.lst τ, r.1⟩], kill := r.2.kill, bx := r.2.bx, wr := r.2.wr ++ [(d, .at (.var (nv + emN r.2.em)) (.own (elMd dp τ)))] }

def fldsA (b : A) : Nat → Nat → List A
  | _, 0 => []
  | off, n + 1 => .fld b off :: fldsA b (off + 1) n

/-- One part more. -/
def Take.more (k : Take) (e : Em) : Take := { k with em := k.em ++ [e] }

/-- A struct's parts: the cells, what was taken (and what is made of each). -/
def buildParts (P : Program) (s : TypeId) (nv : Nat) : Take → List Cell → List (Nat × Operand) → Rd (List Cell × Take)
  | k, cs, [] => pure (cs, k)
  | k, cs, (i, x) :: ps => do
    let (off, ft) ← Rd.ofO (fieldOf P s i)
    let n := P.cellsOf ft
    let k' ← Rd.under k (takeV P (nv + emN k.em) ft x)
    Rd.guard (off + n ≤ cs.length && n != 0)
    if isAggB P ft then
      buildParts P s nv ((k.and k').more (.e ⟨.all n, [k'.x]⟩)) (cs.take off ++ cellsM (.var (nv + emN (k.and k').em)) 0 k'.m n ++ cs.drop (off + n)) ps
    else do
      Rd.guard (n == 1)
      buildParts P s nv ((k.and k').more (.e ⟨.atom, [k'.x]⟩)) (cs.take off ++ [some (.var (nv + emN (k.and k').em), k'.m)] ++ cs.drop (off + n)) ps

/-- Where a struct's fields lie. -/
def placesOf (P : Program) (t : TypeId) : Option (List (Nat × Nat)) :=
  match P.underlying t with
  | some (.struct fs) => fs.toList.mapM (fun f => (P.info? f.type).map fun i => (f.offset, i.size))
  | _ => none

def stBuild (P : Program) (nv d : Nat) (t : TypeId) (ps : List (Nat × Operand)) : Rd Step := do
  let τ ← Rd.ofO (tyD P t)
  let cs ← Rd.ofO (zeroCells τ)
  Rd.guard (zeroOk P t cs)
  let _ ← Rd.ofO (placesOf P t)
  let r ← buildParts P t nv .nil cs ps
  let xs ← Rd.ofO (knownA r.1)
  pure { em := r.2.em ++ [.e ⟨.mk, xs⟩], kill := r.2.kill, bx := r.2.bx, wr := r.2.wr ++ [(d, .at (.var (nv + emN r.2.em)) (mkMd r.1))] }

def stConvert (P : Program) (nv d : Nat) (src dst : TypeId) (x : Operand) : Rd Step := do
  match P.underlying src, P.underlying dst with
  | some (.int _), some (.int k) => stE1 P nv d (.conv k) src x
  | some (.slice e), some .string => do
    Rd.guard (match P.underlying e with | some (.int .u8) => true | _ => false)
    stE1 P nv d .text src x
  | some .string, some (.slice e) => do
    Rd.guard (match P.underlying e with | some (.int .u8) => true | _ => false)
    let a ← look P src x
    pure { em := [.e ⟨.bytes, [a]⟩], wr := [(d, .at (.var nv) (.own .sh))] }
  | some (.slice e), some (.slice e') => do
    Rd.guard (src == dst && (match P.underlying e, P.underlying e' with | some (.int .u8), some (.int .u8) => true | _, _ => false))
    let k ← takeV P nv src x
    Rd.guard (match k.m with | .own .sh => true | _ => false)
    pure { em := k.em ++ [.e ⟨.idx 1, [k.x, .int .i64 0]⟩], kill := k.kill, bx := k.bx, wr := k.wr ++ [(d, .at k.x k.m)] }
  | _, _ => Rd.fail

/-- Bounds that may be left out. -/
def lookO (P : Program) : Option Operand → Rd (List A)
  | none => pure []
  | some x => do
    let a ← look P 0 x
    pure [a]

/-- A part of a row that nobody writes, or of a string. -/
def stSliceF (P : Program) (nv d : Nat) (t : TypeId) (x : Operand) (lo hi : Option Operand) : Rd Step := do
  let as ← lookO P lo
  let bs ← lookO P hi
  match P.underlying t with
  | some (.slice e) => do
    let k ← frzV P nv t x
    Rd.guard (P.cellsOf e != 0)
    pure { em := k.em ++ [.e ⟨.sub (P.cellsOf e) lo.isSome hi.isSome, k.x :: as ++ bs⟩], kill := k.kill, bx := k.bx, wr := k.wr ++ [(d, .at (.var (nv + emN k.em)) .sh)] }
  | some .string => do
    let a ← look P t x
    pure (putE d nv (.sub 0 lo.isSome hi.isSome) (a :: as ++ bs))
  | _ => Rd.fail

def winNo (lo hi : Option Operand) : Nat := match lo, hi with | some _, none => 1 | none, some _ => 2 | _, _ => 0

/-- Which window of an owned row: 1: from lo on, 2: up to hi, 0: none. -/
def winOf (P : Program) (t : TypeId) (x : Operand) (lo hi : Option Operand) : Rd Nat := do
  match ← Rd.flag with
  | false => pure 0
  | true => match ← opnd P t x with
    | .at _ (.own _) => pure (winNo lo hi)
    | .rf _ _ _ _ => pure (winNo lo hi)
    | _ => pure 0

/-- An owned row from element i on: an alias. -/
def stSuf (P : Program) (nv d : Nat) (t : TypeId) (x : Operand) (lo : Option Operand) : Rd Step := do
  let e ← Rd.ofO (elemOf P t)
  let y ← Rd.ofO lo
  let i ← look P 0 y
  Rd.guard (P.cellsOf e != 0)
  match ← opnd P t x with
  | .rf b r c _ => do
    let (v, _) ← rootA b r c
    Rd.guard (!(b == false && r == d))
    pure { em := [.e ⟨.idx (P.cellsOf e), [v, i]⟩], wr := [(d, .pel b r c (P.cellsOf e) i winK)] }
  | .at v (.own _) => do
    let s ← Rd.ofO (match x with | .tmp s => some s | _ => none)
    pure { em := [.e ⟨.idx (P.cellsOf e), [v, i]⟩], wr := [(d, .pel false s 0 (P.cellsOf e) i winK)] }
  | _ => Rd.fail

/-- An owned row up to element j: the row is taken, what lies behind is forgotten. -/
def stPre (P : Program) (nv d : Nat) (t : TypeId) (x : Operand) (hi : Option Operand) : Rd Step := do
  let e ← Rd.ofO (elemOf P t)
  let y ← Rd.ofO hi
  let j ← look P 0 y
  Rd.guard (P.cellsOf e != 0)
  let k ← takeV P nv t x
  match k.m with
  | .own .sh => pure { em := k.em ++ [.e ⟨.sub (P.cellsOf e) false true, [k.x, j]⟩], kill := k.kill, bx := k.bx, wr := k.wr ++ [(d, .at (.var (nv + emN k.em)) (.own .sh))] }
  | _ => Rd.fail

def stSlice (P : Program) (nv d : Nat) (t : TypeId) (x : Operand) (lo hi : Option Operand) : Rd Step := do
  match ← winOf P t x lo hi with
  | 1 => stSuf P nv d t x lo
  | 2 => stPre P nv d t x hi
  | _ => stSliceF P nv d t x lo hi

/-- The length of an alias, where its name is known. -/
def lnOf : SV → Option A
  | .rf _ _ _ n => n
  | _ => none

def stLen (P : Program) (nv d : Nat) (t : TypeId) (x : Operand) : Rd Step := do
  match lnOf (← opnd P t x) with
  | some n => do
    Rd.guard (match P.underlying t with | some (.slice _) => true | _ => false)
    pure { wr := [(d, .at n .sh)] }
  | none => do
  let a ← look P t x
  match P.underlying t with
  | some (.slice _) => pure (putE d nv .len [a])
  | some .string => pure (putE d nv .slen [a])
  | _ => Rd.fail

def stE2 (P : Program) (nv d : Nat) (op : Xo) (t : TypeId) (x : Operand) (u : TypeId) (y : Operand) : Rd Step := do
  let a ← look P t x
  let b ← look P u y
  pure (putE d nv op [a, b])

/-- Is it known which bool this is? -/
def known (σ : Sg) : A → Option Bool
  | .bool b => some b
  | x => (σ.dec.find? fun y => y.1 == x).map (·.2)

def Rd.known (x : A) : Rd (Option Bool) := fun σ => some (Vm.known σ x, [])

def stPick (P : Program) (nv d : Nat) (t : TypeId) (c x y : Operand) : Rd Step := do
  let c ← look P 0 c
  match ← Rd.known c with
  | some b => stMove P nv d t (if b then x else y)
  | none =>
    let a ← frzV P nv t x
    let b ← Rd.under a (frzV P (nv + emN a.em) t y)
    pure { em := (a.and b).em ++ [.e ⟨.pick, [c, a.x, b.x]⟩], kill := (a.and b).kill, bx := (a.and b).bx, wr := (a.and b).wr ++ [(d, .at (.var (nv + emN (a.and b).em)) .sh)] }

def look1 (P : Program) (any : Bool) (t : TypeId) (x : Operand) : Rd A :=
  match any with
  | true => look P t x
  | false => lookSh P t x

def resSV (nv : Nat) : List (Ty × Md) → SV
  | [(_, m)] => .at (.var nv) m
  | rt => .tup (rt.zipIdx.map fun x => some (.var (nv + x.2), x.1.2))

def callOk (P : Program) (f : Nat) : Bool :=
  match P.funcs[f]? with
  | some fn => fn.body.isSome && !(fn.name == "runtime.NumGoroutine")
  | none => false

/-- A call's argument: an operand, or a captured address. -/
inductive Ar where
  | op (t : TypeId) (x : Operand)
  | cp (c : Cp)
  deriving Inhabited

/-- A variable's cells as one value. -/
def mkOf (nv : Nat) : List A → List Em × A
  | [x] => ([], x)
  | cs => ([.e ⟨.mk, cs⟩], .var nv)

/-- What lies at a captured address. -/
def capA (any : Bool) (nv : Nat) : Cp → Rd (List Em × A)
  | .psh x => pure ([], x)
  | .ptr r => do
    Rd.guard any
    let b ← Rd.box r
    let xs ← Rd.ofO (knownA b)
    pure (mkOf nv xs)

def capsA (any : Bool) : Nat → List Cp → Rd (List Em × List A)
  | _, [] => pure ([], [])
  | nv, c :: cs => do
    let r ← capA any nv c
    let q ← capsA any (nv + emN r.1) cs
    pure (r.1 ++ q.1, r.2 :: q.2)

/-- An address that may be captured. -/
def cpOf (P : Program) (x : Operand) : Rd Cp := do
  match ← opnd P 0 x with
  | .ptr r f => do
    Rd.guard (f == 0)
    pure (.ptr r)
  | .psh x f => do
    Rd.guard (f == 0)
    pure (.psh x)
  | _ => Rd.fail

def cpsOf (P : Program) : List Operand → Rd (List Cp)
  | [] => pure []
  | x :: xs => do
    let c ← cpOf P x
    let cs ← cpsOf P xs
    pure (c :: cs)

/-- What is only read. -/
def lookAg (P : Program) (nv : Nat) (t : TypeId) (x : Operand) : Rd (List Em × A) := do
  match ← opnd P t x with
  | .ag r off n => do
    let b ← Rd.box r
    let xs ← Rd.ofO (knownA ((b.drop off).take n))
    pure ([.e ⟨.mk, xs⟩], .var nv)
  | _ => do
    let a ← look P t x
    pure ([], a)

def Take.mores (k : Take) (es : List Em) : Take := { k with em := k.em ++ es }

/-- A nil row. -/
def nilOp : Ar → Bool
  | .op _ (.const (.slice none 0 0)) => true
  | _ => false

/-- One argument; k: what was taken till now. -/
def argA (P : Program) (any : Bool) (nv : Nat) (k : Take) : PK → Ar → Rd (List A × Take)
  | .val, .op t x => match any with
    | true => do
      let r ← Rd.under k (lookAg P (nv + emN k.em) t x)
      pure ([r.2], k.mores r.1)
    | false => do
      let k' ← Rd.under k (frzV P (nv + emN k.em) t x)
      pure ([k'.x], k.and k')
  | .rd, .op _ x => do
    let c ← Rd.under k (cpOf P x)
    let r ← Rd.under k (capA any (nv + emN k.em) c)
    pure ([r.2], k.mores r.1)
  | .rd, .cp c => do
    let r ← Rd.under k (capA any (nv + emN k.em) c)
    pure ([r.2], k.mores r.1)
  | .fn g n, .op _ x => do
    match ← Rd.under k (opnd P 0 x) with
    | .fn g' caps => do
      Rd.guard (g == g' && caps.length == n)
      let r ← Rd.under k (capsA any (nv + emN k.em) caps)
      pure (r.2, k.mores r.1)
    | _ => Rd.fail
  | .nil, x => do
    Rd.guard (nilOp x)
    pure ([], k)
  | _, _ => Rd.fail

def argsA (P : Program) (any : Bool) (nv : Nat) : Take → List PK → List Ar → Rd (List A × Take)
  | k, [], [] => pure ([], k)
  | k, p :: pk, x :: xs => do
    let r ← argA P any nv k p x
    let q ← argsA P any nv r.2 pk xs
    pure (r.1 ++ q.1, q.2)
  | _, _, _ => Rd.fail

/-- A loan: what is told ahead of the call, what is lent, what is told behind the call, what is written then. -/
structure Lend where
  em : List Em := []
  x : A
  em2 : List Em := []
  t : Take
  deriving Inhabited

def lendT (wr : List (Nat × SV)) (bx : List (Nat × Bx)) (kill : List (Nat × Nat)) : Take := { x := .int .i64 0, m := .sh, wr := wr, bx := bx, kill := kill }

/-- A variable is lent by its address. -/
def lendBox (nv no : Nat) (τ : Ty) (m m' : Md) (r : Nat) : Rd Lend := do
  let b ← Rd.boxW r
  if τ.isAgg then do
    Rd.guard (τ.flat && b.length == τ.n)
    let xs ← Rd.ofO (matchM m b)
    pure { em := [.e ⟨.mk, xs⟩], x := .var nv, t := lendT [] [(r, some (cellsM (.var (nv + 1 + no)) 0 m' τ.n))] [(2, r)] }
  else match b with
    | [some (y, m1)] => do
      Rd.guard (coeR y m m1)
      pure { x := y, t := lendT [] [(r, some [some (.var (nv + no), m')])] [(2, r)] }
    | _ => Rd.fail

/-- What is lent; no: how many names the call gives ahead of it. -/
def lendV (P : Program) (nv no : Nat) : Lk → Ar → Rd Lend
  | .row τ, .op t x => do
    Rd.guard (!(Md.deep τ).isSh)
    match ← opnd P t x with
    | .at y m => match x with
      | .tmp s => do
        Rd.guard (coe y (Md.deep τ) m)
        pure { x := y, t := lendT [(s, .at (.var (nv + no)) (Md.deep τ))] [] [(0, s)] }
      | _ => Rd.fail
    | .rf false r _ _ => match ← Rd.slot r with
      | .at y m => do
        Rd.guard (coe y (Md.deep τ) m)
        pure { x := y, t := lendT [(r, .at (.var (nv + no)) (Md.deep τ))] [] [(0, r)] }
      | _ => Rd.fail
    | .rf true r c ln => do
      let b ← Rd.box r
      match b[c]? with
      | some (some (y, m)) => do
        Rd.guard (coe y (Md.deep τ) m && !τ.isAgg)
        pure { x := y, t := lendT [] [(r, some (b.set c (some (.var (nv + no), Md.deep τ))))] [(2, r)] }
      | _ => Rd.fail
    | .ag r off n => do
      let b ← Rd.box r
      let xs ← Rd.ofO (matchM (Md.deep τ) ((b.drop off).take n))
      Rd.guard (τ.flat && τ.n == n && off + n ≤ b.length)
      pure { em := [.e ⟨.mk, xs⟩], x := .var nv, t := lendT [] [(r, some (b.take off ++ cellsM (.var (nv + 1 + no)) 0 (Md.deep τ) n ++ b.drop (off + n)))] [(2, r)] }
    | .ea _ b r c m i off nn => do
      let (x0, mm) ← rootA b r c
      Rd.guard (mm.cell off == Md.deep τ && !τ.isAgg && nn == 0)
      match b with
      | false => pure { em := [.e ⟨.idx m, [x0, i]⟩], x := .fld (.var nv) off, em2 := [.e ⟨.set m off 1, [x0, i, .var (nv + 1 + no)]⟩], t := lendT [(r, .at (.var (nv + 2 + no)) (.own mm))] [] [(0, r)] }
      | true => do
        let b ← Rd.box r
        pure { em := [.e ⟨.idx m, [x0, i]⟩], x := .fld (.var nv) off, em2 := [.e ⟨.set m off 1, [x0, i, .var (nv + 1 + no)]⟩], t := lendT [] [(r, some (b.set c (some (.var (nv + 2 + no), .own mm))))] [(2, r)] }
    | _ => Rd.fail
  | .box τ m m', .op _ x => do
    match ← opnd P 0 x with
    | .ptr r f => do
      Rd.guard (f == 0)
      lendBox nv no τ m m' r
    | _ => Rd.fail
  | .box τ m m', .cp (.ptr r) => lendBox nv no τ m m' r
  | _, _ => Rd.fail

/-- A call that is lent something. -/
def stCallL (P : Program) (nv d : Nat) (f : Nat) (s : Sig) (p : Nat) (q : Lk) (xs : List Ar) : Rd Step := do
  let y ← Rd.ofO xs[p]?
  let r ← argsA P false nv .nil s.pk (del p xs)
  let b ← Rd.under r.2 (lendV P (nv + emN r.2.em) s.rt.length q y)
  Rd.guard (callOk P f)
  pure { em := r.2.em ++ (b.em ++ (.call f (r.1 ++ [b.x]) (s.rt.length + 1) :: b.em2)), kill := (r.2.and b.t).kill, bx := (r.2.and b.t).bx,
         wr := (r.2.and b.t).wr ++ [(d, resSV (nv + emN r.2.em + emN b.em) s.rt)] }

/-- A captured variable is read for good: nobody writes it any more. -/
def frzCap (nv : Nat) : List Ar → Rd Take
  | [.op _ (.tmp i)] => do
    match ← Rd.slot i with
    | .fn g [.ptr r] => do
      let b ← Rd.boxW r
      let xs ← Rd.ofO (knownA b)
      pure { x := .var nv, m := .sh, em := [.e ⟨.mk, xs⟩], wr := [(i, .fn g [.psh (.var nv)])], bx := [(r, none)], kill := [(1, r)] }
    | _ => pure .nil
  | _ => pure .nil

/-- A call that something is handed over to. -/
def stCallM (P : Program) (nv d : Nat) (f : Nat) (s : Sig) (p : Nat) (m : Md) (xs : List Ar) : Rd Step := do
  let y ← Rd.ofO xs[p]?
  let k0 ← frzCap nv (del p xs)
  let r ← argsA P false nv k0 s.pk (del p xs)
  match y with
  | .op t x => do
    let k ← Rd.under r.2 (takeV P (nv + emN r.2.em) t x)
    Rd.guard (coe k.x m k.m && callOk P f && !s.nb)
    pure { em := (r.2.and k).em ++ [.call f (r.1 ++ [k.x]) s.rt.length], kill := (r.2.and k).kill, bx := (r.2.and k).bx, wr := (r.2.and k).wr ++ [(d, resSV (nv + emN (r.2.and k).em) s.rt)] }
  | _ => Rd.fail

/-- The cells of a variable: the j-th name. -/
def boxCells (τ : Ty) (m : Md) (j : Nat) : List Cell := if τ.isAgg then cellsM (.var j) 0 m τ.n else [some (.var j, m)]

/-- A call that hands back the address of a new variable. -/
def stCallN (P : Program) (nv d : Nat) (f : Nat) (s : Sig) (xs : List Ar) : Rd Step :=
  match s.rt with
  | [(τ, m)] => do
    let r ← argsA P false nv .nil s.pk xs
    let _ ← Rd.under r.2 (Rd.boxAny d)
    Rd.guard (callOk P f && (!τ.isAgg || τ.flat))
    pure { em := r.2.em ++ [.call f r.1 1], kill := r.2.kill ++ [(1, d)], bx := r.2.bx ++ [(d, some (boxCells τ m (nv + emN r.2.em)))], wr := r.2.wr ++ [(d, .ptr d 0)] }
  | _ => Rd.fail

def stCall (P : Program) (C : Nat → Option Sig) (nv d : Nat) (f : Nat) (xs : List Ar) : Rd Step := do
  let s ← Rd.ofO (C f)
  match s.lt with
  | some (p, .mov _ m) => stCallM P nv d f s p m xs
  | some (p, q) => stCallL P nv d f s p q xs
  | none => if s.nb then stCallN P nv d f s xs else do
    let r ← argsA P (s.rt.all fun x => noSh x.1 x.2) nv .nil s.pk xs
    Rd.guard (callOk P f)
    pure { em := r.2.em ++ [.call f r.1 s.rt.length], kill := r.2.kill, bx := r.2.bx, wr := r.2.wr ++ [(d, resSV (nv + emN r.2.em) s.rt)] }

/-- A call of a function that is known. -/
def stCallV (P : Program) (C : Nat → Option Sig) (nv d : Nat) (c : Operand) (ts : List TypeId) (xs : List Operand) : Rd Step := do
  match ← opnd P 0 c with
  | .fn g caps => do
    Rd.guard (ts.length == xs.length)
    stCall P C nv d g ((ts.zip xs).map (fun x => .op x.1 x.2) ++ caps.map .cp)
  | _ => Rd.fail

def stMakeFunc (P : Program) (d : Nat) (g : Nat) (xs : List Operand) : Rd Step := do
  let cs ← cpsOf P xs
  pure { wr := [(d, .fn g cs)] }

def stExtract (P : Program) (d : Nat) (x : Operand) (i : Nat) : Rd Step := do
  match x with
  | .tmp s => match ← Rd.comp s i with
    | some (some (y, .sh)) => pure { wr := [(d, .at y .sh)] }
    | some (some (y, m)) => do
      Rd.guard (s != d)
      pure { wr := [(d, .tp s i)] }
    | _ => Rd.fail
  | _ => Rd.fail

/-- Which operator: of bools, '==' and '!=' are their own. -/
def binX (P : Program) (op : BinOp) (t : TypeId) : Xo :=
  match op, P.underlying t with
  | .eql, some .bool => .beq false
  | .neq, some .bool => .beq true
  | _, _ => .bin op t

def nilO : Operand → Bool
  | .const (.slice none 0 0) => true
  | _ => false

def neOp : BinOp → Bool
  | .neq => true
  | _ => false

def eqOp : BinOp → Bool
  | .eql => true
  | .neq => true
  | _ => false

/-- An operator; a row that is compared with nil: some bool, one does not know which. -/
def stBin (P : Program) (nv d : Nat) (op : BinOp) (t : TypeId) (x : Operand) (u : TypeId) (y : Operand) : Rd Step :=
  if eqOp op && nilO y then do
    let _ ← Rd.ofO (elemOf P t)
    let a ← look P t x
    pure { em := [.e ⟨.len, [a]⟩], wr := [(d, .anyb (neOp op) a)] }
  else stE2 P nv d (binX P op t) t x u y

/-- A row is cleared in place. -/
def stClear (P : Program) (nv : Nat) (t : TypeId) (x : Operand) : Rd Step := do
  let e ← Rd.ofO (elemOf P t)
  let τ ← Rd.ofO (tyD P e)
  let cs ← Rd.ofO (zeroCells τ)
  let z ← Rd.ofO (match cs with | [some (z, .sh)] => some z | _ => none)
  Rd.guard (zeroOk P e cs && !τ.isAgg)
  match ← opnd P t x with
  | .rf b r c _ => do
    let (y, mm) ← rootA b r c
    Rd.guard mm.isSh
    match b with
    | false => pure { em := [.e ⟨.clr, [z, y]⟩], kill := [(5, r)], wr := [(r, .at (.var nv) (.own .sh))] }
    | true => do
      let bx ← Rd.box r
      pure { em := [.e ⟨.clr, [z, y]⟩], kill := [(6, r)], bx := [(r, some (bx.set c (some (.var nv, .own .sh))))] }
  | .pel b r c m i f => do
    let (y, mm) ← rootA b r c
    Rd.guard (mm.isSh && f == winK && m == 1)
    match b with
    | false => pure { em := [.e ⟨.clr, [z, y, i]⟩], kill := [(5, r)], wr := [(r, .at (.var nv) (.own .sh))] }
    | true => do
      let bx ← Rd.box r
      pure { em := [.e ⟨.clr, [z, y, i]⟩], kill := [(6, r)], bx := [(r, some (bx.set c (some (.var nv, .own .sh))))] }
  | _ => Rd.fail

/-- One operation. C: the functions' shapes; nv: how many names there are. -/
def opStep (P : Program) (C : Nat → Option Sig) (dp : Bool) (nv : Nat) (o : Oper) : Rd Step :=
  match o.op with
  | .move x => do stMove P nv (← dstOf o.dst) o.type x
  | .assign x => stAssign P nv o.dst o.type x
  | .box t x => do stBox P nv (← dstOf o.dst) t x
  | .alloc t => do stAlloc P (← dstOf o.dst) t
  | .load t x => do stLoad P nv (← dstOf o.dst) t x
  | .store t p x => do
    Rd.guard (o.dst == none)
    stStore P nv t p x
  | .nilCheck x => do stNilCheck P (← dstOf o.dst) x
  | .fieldAddr s x f => do stFieldAddr P (← dstOf o.dst) s x f
  | .indexAddr t x i => do stIndexAddr P nv (← dstOf o.dst) t x i
  | .makeSlice t x y => do stMakeSlice P dp nv (← dstOf o.dst) t x y
  | .convert s t x => do stConvert P nv (← dstOf o.dst) s t x
  | .binOp op t x y u => do stBin P nv (← dstOf o.dst) op t x u y
  | .unOp op t x => do stE1 P nv (← dstOf o.dst) (.un op) t x
  | .pick c x y => do stPick P nv (← dstOf o.dst) o.type c x y
  | .build t ps => do stBuild P nv (← dstOf o.dst) t ps.toList
  | .buildSlice t n ps => do stBuildSlice P dp nv (← dstOf o.dst) t n ps.toList
  | .call { callee := .builtin .append, args := ⟨[x, y]⟩, argTypes := ⟨[t, u]⟩ } => do
    Rd.guard (t == u)
    stAppend P dp nv (← dstOf o.dst) t x y
  | .call { callee := .builtin .len, args := ⟨[x]⟩, argTypes := ⟨[t]⟩ } => do stLen P nv (← dstOf o.dst) t x
  | .call { callee := .value c, args := ⟨xs⟩, argTypes := ⟨ts⟩ } => do stCallV P C nv (← dstOf o.dst) c ts xs
  | .makeFunc (.func g) ⟨[]⟩ ⟨xs⟩ => do stMakeFunc P (← dstOf o.dst) g xs
  | .call { callee := .builtin .min, args := ⟨[x, y]⟩, argTypes := ⟨[t, u]⟩ } => do
    Rd.guard (match P.underlying t with | some (.int _) => true | _ => false)
    stE2 P nv (← dstOf o.dst) .mn t x u y
  | .call { callee := .builtin .max, args := ⟨[x, y]⟩, argTypes := ⟨[t, u]⟩ } => do
    Rd.guard (match P.underlying t with | some (.int _) => true | _ => false)
    stE2 P nv (← dstOf o.dst) .mx t x u y
  | .call { callee := .builtin .clear, args := ⟨[x]⟩, argTypes := ⟨[t]⟩ } => do
    Rd.guard (o.dst == none)
    stClear P nv t x
  | .slice t x lo hi none => do stSlice P nv (← dstOf o.dst) t x lo hi
  | .extract x i => do stExtract P (← dstOf o.dst) x i
  | _ => Rd.fail

def Sg.apply (σ : Sg) (st : Step) : Sg :=
  st.wr.foldl Sg.putS (st.bx.foldl Sg.putB (st.kill.foldl Sg.kill σ))

end
end Go.Vm
