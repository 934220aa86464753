/- The code, run on names. Definitions, no statement. -/
import Derived.Test.YtecleaangfcloaaVmSx
namespace Go.Vm
set_option linter.unusedVariables false
set_option linter.unusedSimpArgs false

noncomputable section
deriving instance DecidableEq for SV

/-- The same name. -/
def A.same : A → A → Bool
  | .var i, .var j => Nat.beq i j
  | .fld a c, .fld b d => Nat.beq c d && A.same a b
  | x, y => decide (x = y)

theorem A.same_eq : ∀ {x y : A}, A.same x y = true → x = y
  | .var i, .var j, h => by simp [A.same, Nat.beq_eq] at h; rw [h]
  | .fld a c, .fld b d, h => by
    simp only [A.same, Bool.and_eq_true, Nat.beq_eq] at h
    rw [h.1, A.same_eq h.2]
  | .var _, .fld _ _, h => by simp [A.same] at h
  | .var _, .int _ _, h => by simp [A.same] at h
  | .var _, .bool _, h => by simp [A.same] at h
  | .var _, .str _, h => by simp [A.same] at h
  | .var _, .nil _, h => by simp [A.same] at h
  | .fld _ _, .var _, h => by simp [A.same] at h
  | .fld _ _, .int _ _, h => by simp [A.same] at h
  | .fld _ _, .bool _, h => by simp [A.same] at h
  | .fld _ _, .str _, h => by simp [A.same] at h
  | .fld _ _, .nil _, h => by simp [A.same] at h
  | .int _ _, y, h => by cases y <;> simp_all [A.same]
  | .bool _, y, h => by cases y <;> simp_all [A.same]
  | .str _, y, h => by cases y <;> simp_all [A.same]
  | .nil _, y, h => by cases y <;> simp_all [A.same]

def Md.same (m m' : Md) : Bool := (m.isSh && m'.isSh) || decide (m = m')

theorem Md.same_eq {m m' : Md} (h : m.same m' = true) : m = m' := by
  unfold Md.same at h
  simp only [Bool.or_eq_true, Bool.and_eq_true, decide_eq_true_eq] at h
  rcases h with ⟨h1, h2⟩ | h
  · cases m <;> cases m' <;> simp_all [Md.isSh]
  · exact h

def SV.same : SV → SV → Bool
  | .undef, .undef => true
  | .void, .void => true
  | .at x m, .at y m' => A.same x y && m.same m'
  | .ptr r f, .ptr r' f' => Nat.beq r r' && Nat.beq f f'
  | s, s' => decide (s = s')

theorem SV.same_eq {s s' : SV} (h : SV.same s s' = true) : s = s' := by
  unfold SV.same at h
  split at h
  · rfl
  · rfl
  · simp only [Bool.and_eq_true] at h
    rw [A.same_eq h.1, Md.same_eq h.2]
  · simp only [Bool.and_eq_true, Nat.beq_eq] at h
    rw [h.1, h.2]
  · simpa using h

def emit : List Em → IR → IR
  | [], k => k
  | .e x :: es, k => .letE x (emit es k)
  | .call f xs n :: es, k => .call f xs n (emit es k)

def Sg.say (σ : Sg) (x : A) (b : Bool) : Sg := { σ with dec := (x, b) :: σ.dec }

/-- The bool of operation j, if it was carried out. -/
def guardA (ops : List Oper) (j : Nat) (σ : Sg) : Option (Option A) :=
  match getR ops j with
  | some o => match o.dst with
    | some d => match getR σ.slots d with
      | some (.at x .sh) => some (some x)
      | some .void => some none
      | _ => none
    | none => none
  | none => none

/-- What is never come to: the text fails there. -/
def deadOp : Op → Bool
  | .makeInterface _ _ => true
  | .panic _ => true
  | _ => false

def doOp (P : Program) (C : Nat → Option Sig) (dp : Bool) (o : Oper) (K : Sg → Option IR) (σ : Sg) : Option IR :=
  match opStep P C dp σ.nv o σ with
  | some (st, _) => match K { σ.apply st with nv := σ.nv + emN st.em } with
    | some ir => some (emit st.em ir)
    | none => none
  | none => if deadOp o.op then some .fail else none

/-- A slot that holds nothing owned. -/
def skipB (σ : Sg) (d : Nat) : Bool :=
  !σ.kp.contains d && match getR σ.slots d with
  | some s => s.free
  | none => false

def skipOp (o : Oper) (K : Sg → Option IR) (σ : Sg) : Option IR :=
  match o.dst with
  | some d => if skipB σ d then K (σ.putS (d, .void)) else none
  | none => K σ

/-- A region, in its own order. -/
def sxOps (P : Program) (C : Nat → Option Sig) (dp : Bool) (ops : List Oper) (K : Sg → Option IR) : List Oper → Sg → Option IR
  | [], σ => K σ
  | o :: rest, σ =>
    match o.guard with
    | none => doOp P C dp o (sxOps P C dp ops K rest) σ
    | some (j, want) => match guardA ops j σ with
      | none => none
      | some none => skipOp o (sxOps P C dp ops K rest) σ
      | some (some x) => match known σ x with
        | some b => if b == want then doOp P C dp o (sxOps P C dp ops K rest) σ else skipOp o (sxOps P C dp ops K rest) σ
        | none =>
          match doOp P C dp o (sxOps P C dp ops K rest) (σ.say x want), skipOp o (sxOps P C dp ops K rest) (σ.say x (!want)) with
          | some t, some e => some (bif want then .ite x t e else .ite x e t)
          | _, _ => none

/-- What one operation of a drawn region read and wrote. -/
structure En where
  log : List (Bool × Nat)
  wr : List (Nat × SV)
  bx : List (Nat × Bx)
  kill : List (Nat × Nat)
  touch : List (Bool × Nat)
  deriving Inhabited

def ocSame : Option (A × Md) → Option (A × Md) → Bool
  | none, none => true
  | some (x, m), some (y, m') => A.same x y && m.same m'
  | _, _ => false

/-- Codes of all components, all cells. -/
def allF (k : Bool) (r : Nat) : List (Bool × Nat) := (List.range 64).map fun c => (k, Rd.fineC r c)

/-- Codes of those that differ. -/
def diffF (k : Bool) (r : Nat) (xs ys : List (Option (A × Md))) : List (Bool × Nat) :=
  if Nat.beq xs.length ys.length then (List.zipWith ocSame xs ys).zipIdx.filterMap fun z => bif z.1 then none else some (k, Rd.fineC r z.2) else allF k r

def touchB (o : Option Bx) (r : Nat) (b : Bx) : List (Bool × Nat) :=
  match o, b with
  | some (some xs), some ys => diffF true r xs ys
  | _, _ => allF true r

def SV.isTup : SV → Bool
  | .tup _ => true
  | _ => false

def touchS (o : Option SV) (r : Nat) (s : SV) : List (Bool × Nat) :=
  match o, s with
  | some (.tup xs), .tup ys => diffF false r xs ys
  | some t, s => if t.isTup || s.isTup then allF false r else []
  | none, _ => []

/-- Which components, which cells are changed. -/
def touchOf (σ : Sg) (W : List (Nat × SV)) (B : List (Nat × Bx)) : List (Bool × Nat) :=
  (W.flatMap fun x => touchS (getR σ.slots x.1) x.1 x.2) ++ B.flatMap fun x => touchB (getR σ.boxes x.1) x.1 x.2

/-- An operation's entry. -/
def mkEn (σ : Sg) (l : List (Bool × Nat)) (W : List (Nat × SV)) (B : List (Nat × Bx)) (K : List (Nat × Nat)) : En := ⟨l, W, B, K, touchOf σ W B⟩

/-- The slots that are killed. -/
def killW (σ : Sg) (K : List (Nat × Nat)) : List (Nat × SV) :=
  match K with
  | [] => []
  | _ => σ.slots.zipIdx.filterMap fun s => if K.any (fun k => refers k s.1) then some (s.2, .undef) else none

/-- What an operation read and wrote; what it killed, it wrote too. -/
def enOf (σ : Sg) (g l : List (Bool × Nat)) (st : Step) : En := mkEn σ (g ++ (l ++ (killW σ st.kill).map fun x => (false, x.1))) (killW σ st.kill ++ st.wr) st.bx st.kill

def doOpT (P : Program) (C : Nat → Option Sig) (dp : Bool) (o : Oper) (g : List (Bool × Nat)) (T : List En) (K : List En → Sg → Option IR) (σ : Sg) : Option IR :=
  match opStep P C dp σ.nv o σ with
  | some (st, l) => match K (enOf σ g l st :: T) { σ.apply st with nv := σ.nv + emN st.em } with
    | some ir => some (emit st.em ir)
    | none => none
  | none => if deadOp o.op then some .fail else none

def skipOpT (o : Oper) (g : List (Bool × Nat)) (T : List En) (K : List En → Sg → Option IR) (σ : Sg) : Option IR :=
  match o.dst with
  | some d => if skipB σ d then K (mkEn σ ((false, d) :: g) [(d, .void)] [] [] :: T) (σ.putS (d, .void)) else none
  | none => K (mkEn σ g [] [] [] :: T) σ

/-- Which slot tells the guard. -/
def guardSlot (ops : List Oper) (j : Nat) : List (Bool × Nat) :=
  match (ops[j]?).bind (·.dst) with
  | some d => [(false, d)]
  | none => []

/-- A region whose order is drawn: run in its own order; T: what was read and written. -/
def sxOpsT (P : Program) (C : Nat → Option Sig) (dp : Bool) (ops : List Oper) (K : List En → Sg → Option IR) : List Oper → List En → Sg → Option IR
  | [], T, σ => K T σ
  | o :: rest, T, σ =>
    match o.guard with
    | none => doOpT P C dp o [] T (sxOpsT P C dp ops K rest) σ
    | some (j, want) => match guardA ops j σ with
      | none => none
      | some none => skipOpT o (guardSlot ops j) T (sxOpsT P C dp ops K rest) σ
      | some (some x) => match known σ x with
        | some b => if b == want then doOpT P C dp o (guardSlot ops j) T (sxOpsT P C dp ops K rest) σ else skipOpT o (guardSlot ops j) T (sxOpsT P C dp ops K rest) σ
        | none =>
          match doOpT P C dp o (guardSlot ops j) T (sxOpsT P C dp ops K rest) (σ.say x want), skipOpT o (guardSlot ops j) T (sxOpsT P C dp ops K rest) (σ.say x (!want)) with
          | some t, some e => some (bif want then .ite x t e else .ite x e t)
          | _, _ => none

/-- A bit. -/
def tb (m n : Nat) : Bool := Nat.beq (Nat.land 1 (Nat.shiftRight m n)) 1

/-- Whose end an operation waits for, as bits; acc: those ahead of it, W bits each. -/
def ancOf (W acc : Nat) (o : Oper) : Nat :=
  o.after.toList.foldl (fun s e => bif Region.binds .any e then Nat.lor (Nat.lor s (Nat.shiftLeft 1 e.on)) (Nat.land (Nat.shiftRight acc (e.on * W)) (2 ^ W - 1)) else s) 0

def ancGo (W : Nat) : List Oper → Nat → Nat → Nat
  | [], _, acc => acc
  | o :: os, j, acc => ancGo W os (j + 1) (Nat.lor acc (Nat.shiftLeft (Nat.land (ancOf W acc o) (2 ^ W - 1)) (j * W)))

/-- Whose end each operation waits for: all of them, through others too. -/
def ancM (ops : List Oper) : Nat := ancGo ops.length ops 0 0

def An (ops : List Oper) (i j : Nat) : Prop := (ancM ops).testBit (j * ops.length + i) = true ∧ i < ops.length ∧ j < ops.length

def bitOf (c : Bool × Nat) : Nat := 2 * c.2 + (bif c.1 then 1 else 0)
def maskOf : List (Bool × Nat) → Nat
  | [] => 0
  | c :: cs => Nat.lor (Nat.shiftLeft 1 (bitOf c)) (maskOf cs)

def En.writes (e : En) : List (Bool × Nat) := (e.wr.map (fun x => (false, x.1)) ++ e.bx.map (fun x => (true, x.1))) ++ e.touch

def meetsAny (xs ys : List (Bool × Nat)) : Bool := xs.any fun x => ys.contains x

def clash (a b : En) : Bool := meetsAny a.writes (b.log ++ b.writes) || meetsAny a.log b.writes

/-- No clash with what came ahead; prev: number, what was read, what was written. -/
def pairsOk (anc W : Nat) : List En → Nat → List (Nat × Nat × Nat) → Bool
  | [], _, _ => true
  | e :: es, j, prev => (allR prev fun p => tb anc (j * W + p.1) || (Nat.beq (Nat.land p.2.2 (Nat.lor (maskOf e.log) (maskOf e.writes))) 0 && Nat.beq (Nat.land p.2.1 (maskOf e.writes)) 0)) &&
    pairsOk anc W es (j + 1) ((j, maskOf e.log, maskOf e.writes) :: prev)

/-- Does an operation write slot j? -/
def En.wrs (e : En) (j : Nat) : Bool := e.wr.any fun z => Nat.beq z.1 j

/-- Is slot j written by one that i waits for, behind the first n? -/
def overR (T : List En) (anc W i n j : Nat) : Bool := T.zipIdx.any fun y => Nat.ble n y.2 && tb anc (i * W + y.2) && y.1.wrs j

def killsOk (σ0 : Sg) (T : List En) (anc W : Nat) (i : Nat) (e : En) : Bool :=
  allR e.kill fun k => (allR σ0.slots.zipIdx fun s => !refers k s.1 || e.wrs s.2 || overR T anc W i 0 s.2) && allR T.zipIdx fun x => Nat.beq x.2 i || tb anc (x.2 * W + i) || allR x.1.wr fun y => !refers k y.2 || e.wrs y.1 || overR T anc W i (x.2 + 1) y.1

def backOk (ops : List Oper) : Bool := allR ops.zipIdx fun x => allR x.1.after.toList fun e => !Region.binds .any e || Nat.ble (e.on + 1) x.2

def orderOk (ops : List Oper) (σ0 : Sg) (T : List En) : Bool :=
  (Nat.ble σ0.slots.length 1024 && Nat.ble σ0.boxes.length 1024) && backOk ops && Nat.beq T.length ops.length && pairsOk (ancM ops) ops.length T 0 [] && (allR T.zipIdx fun x => killsOk σ0 T (ancM ops) ops.length x.2 x.1)

inductive Ext' where
  | norm
  | exit (id : Nat)
  | ret
  deriving DecidableEq

def firstRegion : Code → Option Nat
  | .region id _ _ => some id
  | .seq a b => (firstRegion a).or (firstRegion b)
  | .cond _ a b => (firstRegion a).or (firstRegion b)
  | .block _ c => firstRegion c
  | .loop c => firstRegion c
  | .scope c => firstRegion c
  | _ => none

/-- Which slots a code writes. -/
def writes : Code → List Nat
  | .region _ ops _ => ops.toList.filterMap (·.dst)
  | .seq a b => writes a ++ writes b
  | .cond _ a b => writes a ++ writes b
  | .block _ c => writes c
  | .loop c => writes c
  | .scope c => writes c
  | _ => []

/-- Where ways meet: the slots, and the boxes' cells, that are told there. -/
structure Meet where
  slots : List (Nat × Md)
  cells : List ((Nat × Nat) × Md)
  drop : List Nat := []
  deriving Inhabited

/-- Hints: (what: 0 a loop, 1 behind a code; the first region's number). -/
abbrev Hints : Type := List ((Nat × Nat) × Meet)

def Hints.at (H : Hints) (k n : Nat) : Option Meet := (H.find? fun x => x.1.1 == k && x.1.2 == n).map (·.2)

def slotA (σ : Sg) (i : Nat) : Option A :=
  match getR σ.slots i with
  | some (.at x _) => some x
  | _ => none

def cellA (σ : Sg) (k : Nat × Nat) : Option A :=
  match getR σ.boxes k.1 with
  | some (some b) => match b[k.2]? with
    | some (some (x, _)) => some x
    | _ => none
  | _ => none

def Meet.args (m : Meet) (σ : Sg) : Option (List A) :=
  match m.slots.mapM (fun x => slotA σ x.1), m.cells.mapM (fun x => cellA σ x.1) with
  | some xs, some ys => some (xs ++ ys)
  | _, _ => none

def setCell (b : List Bx) (k : Nat × Nat) (x : A) (m : Md) : List Bx :=
  match getR b k.1 with
  | some (some cs) => setR b k.1 (some (cs.set k.2 (some (x, m))))
  | _ => b

/-- The names at a meeting: what is told is new; what the code writes else is forgotten. -/
def Meet.state (m : Meet) (σ : Sg) (ws : List Nat) : Sg :=
  let n := σ.nv
  let slots1 := m.drop.foldl (fun s i => setR s i SV.undef) (ws.foldl (fun s i => setR s i SV.undef) σ.slots)
  let boxes1 := ws.foldl (fun b i => setR b i none) σ.boxes
  let slots2 := (m.slots.zipIdx).foldl (fun s x => setR s x.1.1 (.at (.var (n + x.2)) x.1.2)) slots1
  let boxes2 := (m.cells.zipIdx).foldl (fun b x => setCell b x.1.1 (.var (n + m.slots.length + x.2)) x.1.2) boxes1
  { σ with slots := slots2, boxes := boxes2, dec := [], nv := n + m.slots.length + m.cells.length, nl := σ.nl + 1 }

/-- Only the first n names. -/
def A.under (n : Nat) : A → Bool
  | .var i => i < n
  | .fld a _ => a.under n
  | _ => true

def underO (n : Nat) : Option (A × Md) → Bool
  | some y => y.1.under n
  | none => true

def Cp.under (n : Nat) : Cp → Bool
  | .psh x => x.under n
  | _ => true

def SV.under (n : Nat) : SV → Bool
  | .undef => true
  | .void => true
  | .at x _ => x.under n
  | .ptr _ _ => true
  | .psh x _ => x.under n
  | .tup xs => xs.all (underO n)
  | .rf _ _ _ ln => match ln with | some x => x.under n | none => true
  | .pel _ _ _ _ i _ => i.under n
  | .ea x _ _ _ _ i _ _ => x.under n && i.under n
  | .tp _ _ => true
  | .ag _ _ _ => true
  | .anyb _ x => x.under n
  | .fn _ cs => cs.all (Cp.under n)

def slotOk (n : Nat) (xs : List A) (s s' : SV) : Bool :=
  (match s with | .undef => true | _ => false) || (SV.same s s' && s.under n) || (match s, s' with
    | .at (.var j) m, .at x m' => Nat.ble n j && (match getR xs (j - n) with | some y => A.same y x | none => false) && coe x m m'
    | _, _ => false)

def cellOk (n : Nat) (xs : List A) (s s' : Cell) : Bool :=
  match s, s' with
  | none, _ => true
  | some (x, m), some (y, m') => (m == m' && x == y && x.under n) || (match x with | .var j => n ≤ j && xs[j - n]? == some y && coe y m m' | _ => false)
  | _, _ => false

def allOk {α : Type} (f : α → α → Bool) : List α → List α → Bool
  | [], [] => true
  | x :: xs, y :: ys => f x y && allOk f xs ys
  | _, _ => false

def allOkR {α : Type} (f : α → α → Bool) (l ys : List α) : Bool :=
  List.rec (motive := fun _ => List α → Bool) (fun ys => List.casesOn (motive := fun _ => Bool) ys true (fun _ _ => false))
    (fun x _ ih ys => List.casesOn (motive := fun _ => Bool) ys false (fun y ys' => bif f x y then ih ys' else false)) l ys

theorem allOkR_eq {α : Type} (f : α → α → Bool) : ∀ (l ys : List α), allOkR f l ys = allOk f l ys
  | [], [] => rfl
  | [], _ :: _ => rfl
  | _ :: _, [] => rfl
  | x :: xs, y :: ys => by
    show (bif f x y then allOkR f xs ys else false) = _
    rw [allOkR_eq f xs ys]
    simp only [allOk]
    cases f x y <;> rfl

def boxOk (n : Nat) (xs : List A) (s s' : Bx) : Bool :=
  match s, s' with
  | none, _ => true
  | some b, some b' => allOk (cellOk n xs) b b'
  | _, _ => false

/-- An alias is one of a row that is owned. -/
def rootB (σ : Sg) : SV → Bool
  | .rf false r _ _ => match getR σ.slots r with | some (.at _ (.own _)) => true | _ => false
  | .rf true r c ln => match getR σ.boxes r with
    | some (some cs) => match cs[c]? with | some (some (_, .own _)) => true | _ => false
    | _ => false
  | .pel false r _ _ _ _ => match getR σ.slots r with | some (.at _ (.own _)) => true | _ => false
  | .pel true r c _ _ _ => match getR σ.boxes r with
    | some (some cs) => match cs[c]? with | some (some (_, .own _)) => true | _ => false
    | _ => false
  | .ea _ _ _ _ _ _ _ _ => false
  | .tp _ _ => false
  | .ag r _ _ => match getR σ.boxes r with
    | some (some cs) => cs.any Cell.isOwn
    | _ => false
  | _ => true

/-- The state σ is one of those that τ tells of: the first n names are the same, the others are xs. -/
def meets (n : Nat) (xs : List A) (τ σ : Sg) : Bool :=
  allOkR (slotOk n xs) τ.slots σ.slots && allOkR (boxOk n xs) τ.boxes σ.boxes && (τ.dec.all fun y => σ.dec.contains y && y.1.under n) && n + xs.length == τ.nv && (allR τ.slots (rootB τ)) && (τ.kp == σ.kp && τ.kb == σ.kb)

def jumpTo (m : Meet) (n : Nat) (τ : Sg) (lvl : Nat) (σ : Sg) : Option IR :=
  match m.args σ with
  | some xs => if meets n xs τ σ then some (.jump lvl xs) else none
  | none => none

/-- On to the meeting, where nothing else befalls. -/
def kMeet (m : Meet) (n : Nat) (τ : Sg) (lvl : Nat) (K : Ext' → Sg → Option IR) (e : Ext') (σ : Sg) : Option IR :=
  match e with
  | .norm => jumpTo m n τ lvl σ
  | e => K e σ

/-- The code, run on names. K: what comes behind. -/
def sx (P : Program) (C : Nat → Option Sig) (dp : Bool) (H : Hints) : Code → (Ext' → Sg → Option IR) → Sg → Option IR
  | .skip, K, σ => K .norm σ
  | .label _, K, σ => K .norm σ
  | .region _ ops draw, K, σ =>
    if draw then sxOpsT P C dp ops.toList (fun T σ' => if orderOk ops.toList σ T.reverse then K .norm σ' else none) ops.toList [] σ
    else sxOps P C dp ops.toList (K .norm) ops.toList σ
  | .seq a b, K, σ =>
    match (firstRegion b).bind (Hints.at H 1) with
    | some m =>
      let τ := m.state σ (writes a)
      match sx P C dp H b K τ, sx P C dp H a (kMeet m σ.nv τ σ.nl K) { σ with nl := σ.nl + 1 } with
      | some body, some main => some (.label false body main)
      | _, _ => none
    | none => sx P C dp H a (fun e σ' => match e with | .norm => sx P C dp H b K σ' | e => K e σ') σ
  | .cond c a b, K, σ =>
    match opnd P 0 c σ with
    | some (.at x .sh, _) => match known σ x with
      | some t => if t then sx P C dp H a K σ else sx P C dp H b K σ
      | none => match sx P C dp H a K (σ.say x true), sx P C dp H b K (σ.say x false) with
        | some t, some e => some (.ite x t e)
        | _, _ => none
    | some (.anyb ne x, _) => match sx P C dp H a K σ, sx P C dp H b K σ with
      | some t, some e => some (.amb ne x t e)
      | _, _ => none
    | _ => none
  | .block id c, K, σ => sx P C dp H c (fun e σ' => match e with | .exit i => if i = id then K .norm σ' else K (.exit i) σ' | e => K e σ') σ
  | .loop c, K, σ =>
    match (firstRegion c).bind (Hints.at H 0) with
    | some m =>
      let τ := m.state σ (writes c)
      match sx P C dp H c (kMeet m σ.nv τ σ.nl K) τ, jumpTo m σ.nv τ σ.nl σ with
      | some body, some main => some (.label true body main)
      | _, _ => none
    | none => none
  | .exit id, K, σ => K (.exit id) σ
  | .ret, K, σ => K .ret σ
  | _, _, _ => none

/-- The parameters' slots; j: the next name. -/
def startS : Nat → List PK → List SV
  | _, [] => []
  | j, .val :: pk => .at (.var j) .sh :: startS (j + 1) pk
  | j, .rd :: pk => .psh (.var j) 0 :: startS (j + 1) pk
  | j, .nil :: pk => .undef :: startS j pk
  | j, .fn g n :: pk => .fn g ((List.range' j n).map fun i => .psh (.var i)) :: startS (j + n) pk

/-- The names at a function's beginning; kb: the boxes that the lent parameter is put into. -/
def startSg (n : Nat) (s : Sig) (kb : List (Nat × Nat)) : Sg :=
  match s.lt with
  | none => ⟨startS 0 s.pk ++ List.replicate (n - s.pk.length) SV.undef, List.replicate n none, [], s.nin0, 0, [], []⟩
  | some (p, Lk.row τ) => ⟨ins p (SV.at (A.var s.nin0) (Md.deep τ)) (startS 0 s.pk) ++ List.replicate (n - (s.pk.length + 1)) SV.undef, List.replicate n none, [], s.nin0 + 1, 0, [p], kb⟩
  | some (p, Lk.box τ m _) => ⟨ins p (SV.ptr p 0) (startS 0 s.pk) ++ List.replicate (n - (s.pk.length + 1)) SV.undef,
      setR (List.replicate n none) p (some (boxCells τ m s.nin0)), [], s.nin0 + 1, 0, [p], []⟩
  | some (p, Lk.mov τ m) => ⟨ins p (SV.at (A.var s.nin0) m) (startS 0 s.pk) ++ List.replicate (n - (s.pk.length + 1)) SV.undef, List.replicate n none, [], s.nin0 + 1, 0, [], [(movK, 0)]⟩

/-- A variable that is lent has no structs inside. -/
def Sig.okB (s : Sig) : Bool :=
  match s.lt with
  | some (_, .box τ _ _) => !τ.isAgg || τ.flat
  | _ => true

def opsL : Code → List Oper
  | .region _ ops _ => ops.toList
  | .seq a b => opsL a ++ opsL b
  | .cond _ a b => opsL a ++ opsL b
  | .block _ c => opsL c
  | .loop c => opsL c
  | .scope c => opsL c
  | _ => []

/-- The boxes that the lent parameter is put into. -/
def kbOf (s : Sig) (c : Code) : List (Nat × Nat) :=
  match s.lt with
  | some (p, .row _) => (opsL c).filterMap fun o => match o.op, o.dst with
    | .box _ (.tmp q), some d => if q == p then some (d, p) else none
    | _, _ => none
  | _ => []

/-- One result. -/
def resOne (P : Program) (σ : Sg) (nv : Nat) (m : Md) : ResultVar → Option (List Em × A)
  | .tmp t => match getR σ.slots t with
    | some (.at x m') => if coeR x m m' then some ([], x) else none
    | some (.rf true r c ln) => match getR σ.boxes r with
      | some (some b) => match b[c]? with
        | some (some (x, m')) => if coeR x m m' then some ([], x) else none
        | _ => none
      | _ => none
    | some (.ag r f n) => match getR σ.boxes r with
      | some (some b) => (matchM m ((b.drop f).take n)).map fun xs => ([.e ⟨.mk, xs⟩], .var nv)
      | _ => none
    | _ => none
  | .cell t ty => match getR σ.slots t with
    | some (.ptr r f) => match getR σ.boxes r with
      | some (some b) =>
        if isAggB P ty then
          if f + P.cellsOf ty ≤ b.length ∧ P.cellsOf ty ≠ 0 then (matchM m ((b.drop f).take (P.cellsOf ty))).map fun xs => ([.e ⟨.mk, xs⟩], .var nv) else none
        else if notAggB P ty then match b[f]? with
          | some (some (x, m')) => if coeR x m m' then some ([.e ⟨.atom, [x]⟩], .var nv) else none
          | _ => none
        else none
      | _ => none
    | _ => none

def resAll (P : Program) (σ : Sg) : Nat → List (Ty × Md) → List ResultVar → Option (List Em × List A)
  | _, [], [] => some ([], [])
  | nv, t :: ts, v :: vs => match resOne P σ nv t.2 v with
    | some (es, x) => match resAll P σ (nv + emN es) ts vs with
      | some (es', xs) => some (es ++ es', x :: xs)
      | none => none
    | none => none
  | _, _, _ => none

/-- One result, where all that is owned is handed out as such that nobody writes. -/
def resF (P : Program) (σ : Sg) (nv : Nat) : ResultVar → Option (List Em × A)
  | .tmp t => match getR σ.slots t with
    | some (.at x _) => some ([], x)
    | some (.rf b r c ln) => (rootA b r c σ).map fun y => ([], y.1.1)
    | some (.ag r f n) => match getR σ.boxes r with
      | some (some b) => (knownA ((b.drop f).take n)).map fun xs => ([.e ⟨.mk, xs⟩], .var nv)
      | _ => none
    | _ => none
  | .cell t ty => match getR σ.slots t with
    | some (.ptr r f) => match getR σ.boxes r with
      | some (some b) =>
        if isAggB P ty then
          if f + P.cellsOf ty ≤ b.length ∧ P.cellsOf ty ≠ 0 then (knownA ((b.drop f).take (P.cellsOf ty))).map fun xs => ([.e ⟨.mk, xs⟩], .var nv) else none
        else if notAggB P ty then match b[f]? with
          | some (some (x, _)) => some ([.e ⟨.atom, [x]⟩], .var nv)
          | _ => none
        else none
      | _ => none
    | _ => none

def resFAll (P : Program) (σ : Sg) : Nat → List ResultVar → Option (List Em × List A)
  | _, [] => some ([], [])
  | nv, v :: vs => match resF P σ nv v with
    | some (es, x) => match resFAll P σ (nv + emN es) vs with
      | some (es', xs) => some (es ++ es', x :: xs)
      | none => none
    | none => none

def resKey (σ : Sg) : ResultVar → Bool × Nat
  | .tmp t => match getR σ.slots t with
    | some (.rf true r _ _) => (true, r)
    | some (.ag r _ _) => (true, r)
    | _ => (false, t)
  | .cell t _ => match getR σ.slots t with
    | some (.ptr r _) => (true, r)
    | _ => (false, t)

/-- What was lent comes back: its name, who owns it. -/
def outA (σ : Sg) (nv p : Nat) : Lk → Option (List Em × A × (Bool × Nat))
  | .row τ => match getR σ.slots p with
    | some (.at y m) => if coe y (Md.deep τ) m then some ([], y, (false, p)) else none
    | _ => match σ.kb.findSome? (fun x => if x.2 == p then (match getR σ.boxes x.1 with | some (some cs) => some (x.1, cs) | _ => none) else none) with
      | some (r, cs) => (matchM (Md.deep τ) cs).map fun xs => ([.e ⟨.mk, xs⟩], .var nv, (true, r))
      | none => none
  | .box τ _ m' => match getR σ.slots p with
    | some (.ptr r 0) => if r == p then match getR σ.boxes p with
      | some (some cs) => if τ.isAgg then (matchM m' cs).map fun xs => ([.e ⟨.mk, xs⟩], .var nv, (true, p)) else match cs with
        | [some (y, m1)] => if coeR y m' m1 then some ([], y, (true, p)) else none
        | _ => none
      | _ => none
      else none
    | _ => none
  | .mov _ _ => none

def kTopL (P : Program) (fn : Func) (s : Sig) (p : Nat) (q : Lk) (σ : Sg) : Option IR :=
  if !σ.kp.contains p then none else match resAll P σ σ.nv s.rt fn.results.toList with
  | some (es, xs) => match outA σ (σ.nv + emN es) p q with
    | some (es', y, k) => if (fn.results.toList.map (resKey σ) ++ [k]).Nodup then some (emit (es ++ es') (.ret (xs ++ [y]))) else none
    | none => none
  | none => none

/-- The address of a new variable is handed back. -/
def kTopN (fn : Func) (s : Sig) (σ : Sg) : Option IR :=
  match s.rt, fn.results.toList with
  | [(τ, m)], [.tmp t] => match getR σ.slots t with
    | some (.ptr r 0) => match getR σ.boxes r with
      | some (some cs) => if τ.isAgg then (matchM m cs).map fun xs => emit [.e ⟨.mk, xs⟩] (.ret [.var σ.nv]) else match cs with
        | [some (y, m1)] => if coeR y m m1 then some (.ret [y]) else none
        | _ => none
      | _ => none
    | _ => none
  | _, _ => none

/-- The results, where nothing is given back. -/
def kTopP (P : Program) (fn : Func) (s : Sig) (σ : Sg) : Option IR :=
  if s.rt.all (fun x => x.2.isSh) then match resFAll P σ σ.nv fn.results.toList with
    | some (es, xs) => some (emit es (.ret xs))
    | none => none
    else if (fn.results.toList.map (resKey σ)).Nodup then match resAll P σ σ.nv s.rt fn.results.toList with
    | some (es, xs) => some (emit es (.ret xs))
    | none => none
    else none

def kTop (P : Program) (fn : Func) (s : Sig) (e : Ext') (σ : Sg) : Option IR :=
  match e with
  | .exit _ => none
  | _ => match s.lt with
    | some (p, q) => if q.isMov then (if s.nb then none else kTopP P fn s σ) else kTopL P fn s p q σ
    | none => if s.nb then kTopN fn s σ else kTopP P fn s σ

/-- A function's text. -/
def fnIR (P : Program) (C : Nat → Option Sig) (H : Hints) (fn : Func) (s : Sig) : Option IR :=
  match fn.body with
  | some c => if s.np ≤ fn.ntmps ∧ s.okB = true then sx P C s.deep H c (kTop P fn s) (startSg fn.ntmps s (kbOf s c)) else none
  | none => none

end
end Go.Vm
