/- A small language of values (IR), what it says (den). Definitions and small lemmas, no statement. -/
import Derived.Test.YtecleaangfcloaaVmTy
import GoSem.Dispatch
namespace Go.Vm
set_option linter.unusedVariables false
set_option linter.unusedSimpArgs false

/-- A value with its code. -/
abbrev Dy : Type := Σ τ : Ty, D τ

/-- A struct's code, flat. -/
def Ty.cat : Ty → Ty → Ty
  | .unit, b => b
  | .pair x y, b => .pair x (y.cat b)
  | a, b => .pair a b

/-- A type's code, as the program tells it. -/
def tyOf (P : Program) : Nat → TypeId → Option Ty
  | 0, _ => none
  | k + 1, t => match P.underlying t with
    | some (.int i) => some (.int i)
    | some .bool => some .bool
    | some .string => some .str
    | some (.slice e) => (tyOf P k e).map .sl
    | some (.struct fs) => fs.toList.foldr (fun f acc => match tyOf P k f.type, acc with | some a, some b => some (Ty.cat a b) | _, _ => none) (some .unit)
    | _ => none

def tyD (P : Program) (t : TypeId) : Option Ty := tyOf P 12 t

/-- A struct's code without structs inside. -/
def Ty.flat : Ty → Bool
  | .unit => true
  | .pair a b => !a.isAgg && b.flat
  | _ => false

/-- All rows owned. -/
def Md.deep : Ty → Md
  | .sl e => .own (Md.deep e)
  | .pair a b => if Md.deep a = .sh ∧ Md.deep b = .sh then .sh else .pair (Md.deep a) (Md.deep b)
  | _ => .sh

/-- No rows but owned ones. -/
def noSh : Ty → Md → Bool
  | .sl e, .own m => noSh e m
  | .sl _, _ => false
  | .pair a b, m => noSh a m.l && noSh b m.r
  | _, _ => true

def cellAt : (τ : Ty) → D τ → Nat → Option Dy
  | .pair a b, x, c => if a.isAgg then none else match c with
    | 0 => some ⟨a, x.1⟩
    | c + 1 => cellAt b x.2 c
  | _, _, _ => none

/-- Cell c of a struct; of a value of one cell: itself. -/
def Dy.cell (d : Dy) (c : Nat) : Option Dy := if d.1.isAgg then cellAt d.1 d.2 c else if c = 0 then some d else none

def Dy.ofCells : List Dy → Option Dy
  | [] => some ⟨.unit, ()⟩
  | d :: ds => if d.1.isAgg then none else match Dy.ofCells ds with
    | some r => some ⟨.pair d.1 r.1, (d.2, r.2)⟩
    | none => none

/-- What is known to be of a code. -/
def Dy.as (d : Dy) (τ : Ty) : Option (D τ) := if h : d.1 = τ then some (h ▸ d.2) else none

/-- Atoms. -/
inductive A where
  | var (i : Nat)
  | fld (a : A) (c : Nat)
  | int (k : IntKind) (n : Int)
  | bool (b : Bool)
  | str (s : List Nat)
  | nil (e : Ty)
  deriving DecidableEq, Inhabited

def strOf (s : List Nat) : ByteArray := ⟨(s.map (·.toUInt8)).toArray⟩

def evA (ρ : List Dy) : A → Option Dy
  | .var i => ρ[i]?
  | .fld a c => match evA ρ a with | some d => d.cell c | none => none
  | .int k n => some ⟨.int k, n⟩
  | .bool b => some ⟨.bool, b⟩
  | .str s => some ⟨.str, strOf s⟩
  | .nil e => some ⟨.sl e, []⟩

def evAs (ρ : List Dy) : List A → Option (List Dy)
  | [] => some []
  | x :: xs => match evA ρ x, evAs ρ xs with | some d, some ds => some (d :: ds) | _, _ => none

/-- Operations on values: each is worked out once, and may fail. -/
inductive Xo where
  | a
  | bin (op : BinOp) (t : Nat)
  | beq (ne : Bool)
  | un (op : UnOp)
  | conv (k : IntKind)
  | len
  | slen
  | idx (m : Nat)
  | cells (off n : Nat)
  | all (n : Nat)
  | atom
  | mk
  | lst (e : Ty)
  | app (e : Ty)
  | sub (m : Nat) (lo hi : Bool)
  | set (m off n : Nat)
  | setE (m : Nat)
  | rep (e : Ty)
  | pick
  | mn
  | mx
  | sidx
  | bytes
  | text
  | clr
  | cpy
  deriving Inhabited

/-- Expressions. -/
structure Ex where
  op : Xo
  args : List A
  deriving Inhabited

/-- A value of one cell, no slice, as the model has it. -/
def valA : Dy → Option Value
  | ⟨.int k, n⟩ => some (.int k n)
  | ⟨.bool, b⟩ => some (.bool b)
  | ⟨.str, s⟩ => some (.string s)
  | _ => none

def dyOf : Value → Option Dy
  | .int k n => some ⟨.int k, n⟩
  | .bool b => some ⟨.bool, b⟩
  | .string s => some ⟨.str, s⟩
  | _ => none

def pureOf {α : Type} : Sem α → Option α
  | .pure a => some a
  | _ => none

def asI : Dy → Option Int
  | ⟨.int _, n⟩ => some n
  | _ => none

/-- How long a slice may be: so long as the model makes room for it. -/
def maxRow : Nat := 2 ^ 32

def cellsFrom : List Dy → Nat → Nat → Option (List Dy)
  | _, _, 0 => some []
  | ds, off, n + 1 => match ds[off]?, cellsFrom ds (off + 1) n with | some d, some r => some (d :: r) | _, _ => none

def cellsAt (d : Dy) (off : Nat) : Nat → Option (List Dy)
  | 0 => some []
  | n + 1 => match d.cell off, cellsAt d (off + 1) n with | some x, some r => some (x :: r) | _, _ => none

/-- Cells off .. of a struct are written anew. -/
def setCells : (τ : Ty) → D τ → Nat → List Dy → Option (D τ)
  | τ, x, 0, [] => some x
  | .pair a b, x, 0, d :: ds => match d.as a, setCells b x.2 0 ds with | some y, some r => some (y, r) | _, _ => none
  | .pair a b, x, off + 1, ds => if a.isAgg then none else (setCells b x.2 off ds).map fun r => (x.1, r)
  | _, _, _, _ => none

def setElem (τ : Ty) (x : D τ) (off : Nat) (n : Nat) (v : Dy) : Option (D τ) :=
  if τ.isAgg then
    match (if v.1.isAgg then (if v.1.n = n ∧ n ≠ 1 then cellsAt v 0 n else none) else if n = 1 then some [v] else none) with
    | some ds => setCells τ x off ds
    | none => none
  else if off = 0 ∧ n = 1 then v.as τ else none

def mapAs (e : Ty) : List Dy → Option (List (D e))
  | [] => some []
  | d :: ds => match d.as e, mapAs e ds with | some x, some r => some (x :: r) | _, _ => none

def bytesOf (s : ByteArray) : List Int := s.data.toList.map fun b => (b.toNat : Int)

/-- From where to where: of a slice, or a string, of n. -/
def bounds (n : Nat) (lo hi : Bool) (l : List Dy) : Option (Int × Int) :=
  match lo, hi, l with
  | false, false, [] => some (0, n)
  | true, false, [⟨.int _, a⟩] => some (a, n)
  | false, true, [⟨.int _, b⟩] => some (0, b)
  | true, true, [⟨.int _, a⟩, ⟨.int _, b⟩] => some (a, b)
  | _, _, _ => none

def evX : Xo → List Dy → Option Dy
  | .a, [d] => some d
  | .bin op t, [a, b] => match valA a, valA b with
    | some va, some vb => match pureOf (binOp op t va vb) with | some v => dyOf v | none => none
    | _, _ => none
  | .beq ne, [⟨.bool, a⟩, ⟨.bool, b⟩] => some ⟨.bool, if ne then !(a == b) else a == b⟩
  | .un op, [a] => match valA a with
    | some va => match pureOf (Op.unary op va) with | some v => dyOf v | none => none
    | none => none
  | .conv k, [⟨.int _, n⟩] => some ⟨.int k, k.wrap n⟩
  | .len, [⟨.sl _, l⟩] => some ⟨.int .i64, l.length⟩
  | .slen, [⟨.str, s⟩] => some ⟨.int .i64, s.size⟩
  | .idx m, [⟨.sl e, l⟩, ⟨.int _, n⟩] => if e.n = m ∧ 0 ≤ n then match l[n.toNat]? with | some y => some ⟨e, y⟩ | none => none else none
  | .cells off n, [d] => match cellsAt d off n with | some ds => Dy.ofCells ds | none => none
  | .all n, [d] => if d.1.flat && d.1.n == n then some d else if !d.1.isAgg && n == 1 then some d else none
  | .atom, [d] => if d.1.isAgg then none else some d
  | .mk, ds => Dy.ofCells ds
  | .lst e, ds => match mapAs e ds with | some l => some ⟨.sl e, l⟩ | none => none
  | .app e, [d1, d2] => match d1.as (.sl e), d2.as (.sl e) with
    | some l, some r => if List.length l + List.length r < maxRow then some ⟨.sl e, List.append l r⟩ else none
    | _, _ => none
  | .sub m lo hi, ⟨.sl e, l⟩ :: bs => match bounds l.length lo hi bs with
    | some (a, b) => if e.n = m ∧ m ≠ 0 ∧ 0 ≤ a ∧ a ≤ b ∧ b ≤ l.length then some ⟨.sl e, (l.take b.toNat).drop a.toNat⟩ else none
    | none => none
  | .sub m lo hi, ⟨.str, s⟩ :: bs => match bounds s.size lo hi bs with
    | some (a, b) => if m = 0 ∧ 0 ≤ a ∧ a ≤ b ∧ b ≤ s.size then some ⟨.str, s.extract a.toNat b.toNat⟩ else none
    | none => none
  | .set m off n, [⟨.sl e, l⟩, ⟨.int _, j⟩, d] => if e.n = m ∧ 0 ≤ j then match l[j.toNat]? with
      | some y => match setElem e y off n d with | some z => some ⟨.sl e, l.set j.toNat z⟩ | none => none
      | none => none else none
  | .setE m, [⟨.sl e, l⟩, ⟨.int _, j⟩, d] => if e.n = m ∧ 0 ≤ j ∧ j.toNat < l.length then match d.as e with
      | some z => some ⟨.sl e, l.set j.toNat z⟩
      | none => none else none
  | .rep e, [⟨.int _, j⟩, d] => match d.as e with | some y => if 0 ≤ j ∧ j < maxRow then some ⟨.sl e, List.replicate j.toNat y⟩ else none | none => none
  | .pick, [⟨.bool, b⟩, x, y] => match y.as x.1 with | some z => some ⟨x.1, if b then x.2 else z⟩ | none => none
  | .mn, [⟨.int k, a⟩, ⟨.int _, b⟩] => some ⟨.int k, if b < a then b else a⟩
  | .mx, [⟨.int k, a⟩, ⟨.int _, b⟩] => some ⟨.int k, if b > a then b else a⟩
  | .sidx, [⟨.str, s⟩, ⟨.int _, n⟩] => if 0 ≤ n then match s[n.toNat]? with | some b => some ⟨.int .u8, b.toNat⟩ | none => none else none
  | .bytes, [⟨.str, s⟩] => if s.size < maxRow then some ⟨.sl (.int .u8), bytesOf s⟩ else none
  | .text, [⟨.sl (.int .u8), l⟩] => some ⟨.str, ⟨(l.map fun n => UInt8.ofNat n.toNat).toArray⟩⟩
  | .clr, [d, ⟨.sl e, l⟩] => match d.as e with | some y => if List.length l = 0 then none else some ⟨.sl e, List.replicate (List.length l) y⟩ | none => none
  | .clr, [d, ⟨.sl e, l⟩, ⟨.int _, j⟩] => match d.as e with | some y => if 0 ≤ j ∧ j < List.length l then some ⟨.sl e, l.take j.toNat ++ List.replicate (List.length l - j.toNat) y⟩ else none | none => none
  | .cpy, [⟨.sl e, l⟩, d] => match d.as (.sl e) with | some r => some ⟨.sl e, r.take l.length ++ l.drop r.length⟩ | none => none
  | _, _ => none

def ev (ρ : List Dy) (e : Ex) : Option Dy := match evAs ρ e.args with | some ds => evX e.op ds | none => none

/-- The language. -/
inductive IR where
  | ret (xs : List A)
  | letE (e : Ex) (k : IR)
  | call (f : Nat) (xs : List A) (n : Nat) (k : IR)
  | ite (c : A) (t e : IR)
  | amb (ne : Bool) (x : A) (t e : IR)
  | label (loop : Bool) (body main : IR)
  | jump (l : Nat) (xs : List A)
  | fail
  deriving Inhabited

abbrev Fns : Type := Nat → List Dy → Option (List Dy)
abbrev Lb : Type := List Dy → Option (List Dy)

/-- A loop: N rounds at the most. -/
def rounds (step : Lb → Lb) : Nat → Lb
  | 0 => fun _ => none
  | n + 1 => step (rounds step n)

/-- A label: a loop's head (lp), or a place where ways meet. -/
def lab (lp : Bool) (N : Nat) (step : Lb → Lb) : Lb := bif lp then rounds step N else step (fun _ => none)

open Classical in
noncomputable def den (F : Fns) (N : Nat) : IR → List Dy → List (List Dy → Option (List Dy)) → Option (List Dy)
  | .ret xs, ρ, _ => evAs ρ xs
  | .letE e k, ρ, Ls => match ev ρ e with | some d => den F N k (ρ ++ [d]) Ls | none => none
  | .call f xs n k, ρ, Ls => match evAs ρ xs with
    | some ds => match F f ds with | some rs => if rs.length = n then den F N k (ρ ++ rs) Ls else none | none => none
    | none => none
  | .ite c t e, ρ, Ls => match evA ρ c with
    | some ⟨.bool, b⟩ => bif b then den F N t ρ Ls else den F N e ρ Ls
    | _ => none
  | .amb ne x t e, ρ, Ls => match evA ρ x with
    | some ⟨.sl _, l⟩ => if List.length l = 0 then match den F N t ρ Ls, den F N e ρ Ls with
      | some r, some r' => if r = r' then some r else none
      | _, _ => none
      else bif ne then den F N t ρ Ls else den F N e ρ Ls
    | _ => none
  | .label lp body main, ρ, Ls => den F N main ρ (Ls ++ [lab lp N (fun J args => den F N body (ρ ++ args) (Ls ++ [J]))])
  | .jump l xs, ρ, Ls => match Ls[l]?, evAs ρ xs with
    | some J, some ds => J ds
    | _, _ => none
  | .fail, _, _ => none

theorem evA_append {ρ δ : List Dy} : ∀ {x : A} {d : Dy}, evA ρ x = some d → evA (ρ ++ δ) x = some d
  | .var i, d, h => by
    simp only [evA] at h ⊢
    rw [List.getElem?_append_left (List.getElem?_eq_some_iff.1 h).1]
    exact h
  | .fld a c, d, h => by
    simp only [evA] at h ⊢
    cases ha : evA ρ a with
    | none => rw [ha] at h; simp at h
    | some y => rw [ha] at h; rw [evA_append ha]; exact h
  | .int _ _, d, h => h
  | .bool _, d, h => h
  | .str _, d, h => h
  | .nil _, d, h => h

theorem evAs_append {ρ δ : List Dy} : ∀ {xs : List A} {ds : List Dy}, evAs ρ xs = some ds → evAs (ρ ++ δ) xs = some ds
  | [], _, h => h
  | x :: xs, ds, h => by
    simp only [evAs] at h ⊢
    cases hx : evA ρ x with
    | none => rw [hx] at h; simp at h
    | some d =>
      cases hxs : evAs ρ xs with
      | none => rw [hx, hxs] at h; simp at h
      | some r => rw [hx, hxs] at h; rw [evA_append hx, evAs_append hxs]; exact h

theorem ev_append {ρ δ : List Dy} {e : Ex} {d : Dy} (h : ev ρ e = some d) : ev (ρ ++ δ) e = some d := by
  unfold ev at h ⊢
  cases hx : evAs ρ e.args with
  | none => rw [hx] at h; cases h
  | some ds => rw [hx] at h; rw [evAs_append hx]; exact h
end Go.Vm
