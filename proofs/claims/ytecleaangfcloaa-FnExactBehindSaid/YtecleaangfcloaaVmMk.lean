/- Marks: rows that the laws write, and read again. Lemmas alone, no statement. -/
import Derived.Test.YtecleaangfcloaaVmTse
namespace Go.Vm
set_option linter.unusedVariables false
set_option linter.unusedSimpArgs false

/-- Numbers stay below. -/
def top : Int := 4611686018427387904

theorem upk {k : Int} (h0 : 0 ≤ k) (h : k < top) : IntKind.i64.wrap (k + 1) = k + 1 := by
  unfold top at h
  exact wrap_id (by omega) (by omega)

/-- A chain of elements: each takes the number on. -/
def ML {α : Type} (E : α → Int → Int → Prop) : List α → Int → Int → Prop
  | [], k, k' => k = k'
  | y :: l, k, k' => ∃ k1, E y k k1 ∧ ML E l k1 k'

theorem ML.mono {α : Type} {E : α → Int → Int → Prop} (hE : ∀ y k k', E y k k' → k ≤ k') : ∀ {l : List α} {k k' : Int}, ML E l k k' → k ≤ k'
  | [], _, _, h => by rw [show _ = _ from h]; exact Int.le_refl _
  | y :: l, _, _, ⟨k1, h1, h2⟩ => Int.le_trans (hE y _ _ h1) (ML.mono hE h2)

/-- What a mark leaves: x' with H, the number grown by W at the most. -/
def MkF (F : Fns) (f : Nat) (τ : Ty) (W : Int) (H : D τ → Int → Int → Prop) : Prop :=
  ∀ (x : D τ) (k : Int), okD τ x → 0 ≤ k → k + W < top → ∃ (x' : D τ) (k' : Int), F f [I k, ⟨τ, x⟩] = some [I k', ⟨τ, x'⟩] ∧ k ≤ k' ∧ k' ≤ k + W ∧ okD τ x' ∧ H x' k k'

/-- What is marked is held. -/
def HdF (F : Fns) (f : Nat) (τ : Ty) (H : D τ → Int → Int → Prop) : Prop :=
  ∀ (x : D τ) (k k' : Int), okD τ x → 0 ≤ k → k' < top → H x k k' → F f [⟨τ, x⟩, I k] = some [I k']

section
variable {F : Fns} {N : Nat} {ρ : List Dy} {Ls : List Lb} {r : Option (List Dy)}

theorem den_set {m off : Nat} {a b c : A} {k : IR} {e : Ty} {l : List (D e)} {q : IntKind} {n : Int} {y z : D e} {d : Dy} (ha : evA ρ a = some ⟨.sl e, l⟩) (hb : evA ρ b = some ⟨.int q, n⟩) (hc : evA ρ c = some d) (hm : e.n = m) (h0 : 0 ≤ n) (hl : l[n.toNat]? = some y)
    (hz : setElem e y off 1 d = some z) (hk : ∀ l1 : List (D e), l1 = l.set n.toNat z → l1[n.toNat]? = some z → den F N k (ρ ++ [⟨.sl e, l1⟩]) Ls = r) : den F N (.letE ⟨.set m off 1, [a, b, c]⟩ k) ρ Ls = r := by
  refine den_let (d := ⟨.sl e, l.set n.toNat z⟩) ?_ (hk _ rfl (by rw [List.getElem?_set_self (List.getElem?_eq_some_iff.1 hl).1]))
  simp only [ev, evAs, ha, hb, hc, evX, hm, h0, and_self, if_true, hl, hz]

theorem den_inc {a : A} {k : IR} {n : Int} (ha : evA ρ a = some (I n)) (h0 : 0 ≤ n) (h1 : n < top) (hk : den F N k (ρ ++ [I (n + 1)]) Ls = r) : den F N (.letE ⟨.bin .add 3, [a, .int .i64 1]⟩ k) ρ Ls = r := by
  refine den_let (d := I (n + 1)) ?_ hk
  simp only [ev, evAs, ha, evA]
  show some (I (IntKind.i64.wrap (n + 1))) = _
  rw [upk h0 h1]

theorem den_up {a : A} {k : IR} {n : Int} {m : Nat} (ha : evA ρ a = some (I n)) (h0 : 0 ≤ n) (h1 : n ≤ m) (hm : m < big) (hk : den F N k (ρ ++ [I (n + 1)]) Ls = r) : den F N (.letE ⟨.bin .add 3, [a, .int .i64 1]⟩ k) ρ Ls = r :=
  den_inc ha h0 (by unfold big at hm; unfold top; omega) hk

/-- A loop that marks a row's elements. -/
theorem mark_loop {e : Ty} {W : Int} {Em : D e → Int → Int → Prop} {step : Lb → Lb} {enc : Int → Int → List (D e) → List Dy} (hW : 0 ≤ W)
    (hstep : ∀ (J : Lb) (k i : Int) (l : List (D e)) (y : D e), 0 ≤ k → k + W < top → 0 ≤ i → l[i.toNat]? = some y → l.length < big → i < l.length → okD e y →
      ∃ z k1, k ≤ k1 ∧ k1 ≤ k + W ∧ okD e z ∧ Em z k k1 ∧ ∀ r, J (enc k1 (i + 1) (l.set i.toNat z)) = r → step J (enc k i l) = r)
    (hexit : ∀ (J : Lb) (k i : Int) (l : List (D e)), ¬ (i < (List.length l : Int)) → step J (enc k i l) = some [I k, S e l]) :
    ∀ (suf pre : List (D e)) (n : Nat) (k : Int), suf.length < n → 0 ≤ k → k + W * suf.length < top → (pre ++ suf).length < big → (∀ y ∈ suf, okD e y) →
      ∃ suf' k', rounds step n (enc k pre.length (pre ++ suf)) = some [I k', S e (pre ++ suf')] ∧ suf'.length = suf.length ∧ (∀ y ∈ suf', okD e y) ∧ k ≤ k' ∧ k' ≤ k + W * suf.length ∧ ML Em suf' k k'
  | [], pre, 0, k, hn, _, _, _, _ => by simp at hn
  | [], pre, n + 1, k, hn, h0, h1, hm, hok => ⟨[], k, hexit _ _ _ _ (by simp), rfl, by simp, Int.le_refl _, by simp, rfl⟩
  | y :: suf, pre, 0, k, hn, _, _, _, _ => by simp at hn
  | y :: suf, pre, n + 1, k, hn, h0, h1, hm, hok => by
    have hlen : ((y :: suf).length : Int) = suf.length + 1 := by simp
    have hWs : 0 ≤ W * suf.length := Int.mul_nonneg hW (by omega)
    have hmul : W * ((y :: suf).length : Int) = W * suf.length + W := by rw [hlen, Int.mul_add, Int.mul_one]
    rw [hmul] at h1
    obtain ⟨z, k1, a1, a2, a3, a4, a5⟩ := hstep (rounds step n) k pre.length (pre ++ y :: suf) y h0 (by omega) (by omega) (by simp) hm (by simp; omega) (hok y (by simp))
    have hset : (pre ++ y :: suf).set (pre.length : Int).toNat z = (pre ++ [z]) ++ suf := by simp
    obtain ⟨suf', k', b1, b2, b3, b4, b5, b6⟩ := mark_loop hW hstep hexit suf (pre ++ [z]) n k1 (by simpa using hn) (by omega) (by omega) (by simpa using hm) (fun y hy => hok y (List.mem_cons_of_mem _ hy))
    refine ⟨z :: suf', k', a5 _ ?_, by simp [b2], fun y hy => ?_, by omega, by rw [hmul]; omega, k1, a4, b6⟩
    · rw [hset]
      have : ((pre.length : Int) + 1) = ((pre ++ [z]).length : Int) := by simp
      rw [this, b1]
      simp
    · rcases List.mem_cons.1 hy with rfl | hy
      · exact a3
      · exact b3 y hy

/-- A row's mark. -/
theorem mark_row {e : Ty} {W : Int} {Em : D e → Int → Int → Prop} {body : IR} {n : Int} {l : List (D e)} (hW : 0 ≤ W) (hl : okD (.sl e) l) (h0 : 0 ≤ n) (h1 : n + W * l.length < top)
    (hexit : ∀ (J : Lb) (k i : Int) (l1 : List (D e)), ¬ (i < (List.length l1 : Int)) → den F big body ([I n, S e l] ++ [I k, I i, S e l1]) ([] ++ [J]) = some [I k, S e l1])
    (hstep : ∀ (J : Lb) (k i : Int) (l1 : List (D e)) (y : D e), 0 ≤ k → k + W < top → 0 ≤ i → l1[i.toNat]? = some y → l1.length < big → i < l1.length → okD e y →
      ∃ z k1, k ≤ k1 ∧ k1 ≤ k + W ∧ okD e z ∧ Em z k k1 ∧ ∀ r, J [I k1, I (i + 1), S e (l1.set i.toNat z)] = r → den F big body ([I n, S e l] ++ [I k, I i, S e l1]) ([] ++ [J]) = r) :
    ∃ (l' : List (D e)) (n' : Int), den F big (.label true body (.jump 0 [.var 0, .int .i64 0, .var 1])) [I n, S e l] [] = some [I n', S e l'] ∧ l'.length = l.length ∧ (∀ y ∈ l', okD e y) ∧ n ≤ n' ∧ n' ≤ n + W * l.length ∧ ML Em l' n n' := by
  obtain ⟨l', n', e1, e2, e3, e4, e5, e6⟩ := mark_loop (enc := fun k i l => [I k, I i, S e l]) (step := fun J args => den F big body ([I n, S e l] ++ args) ([] ++ [J])) hW hstep hexit l [] big n hl.1 h0 h1 hl.1 hl.2
  exact ⟨l', n', den_loop (den_jump rfl rfl e1), e2, e3, e4, e5, e6⟩

/-- A loop that holds a row's elements. -/
theorem held_loop {e : Ty} {Em : D e → Int → Int → Prop} {step : Lb → Lb} {enc : Int → Int → List Dy} {l0 : List (D e)} (hmono : ∀ y k k1, Em y k k1 → k ≤ k1)
    (hstep : ∀ (J : Lb) (k i : Int) (y : D e) (k1 : Int), 0 ≤ k → k1 < top → 0 ≤ i → l0[i.toNat]? = some y → i < l0.length → okD e y → Em y k k1 → ∀ r, J (enc k1 (i + 1)) = r → step J (enc k i) = r)
    (hexit : ∀ (J : Lb) (k i : Int), ¬ (i < (l0.length : Int)) → step J (enc k i) = some [I k]) :
    ∀ (suf pre : List (D e)) (n : Nat) (k k' : Int), l0 = pre ++ suf → suf.length < n → 0 ≤ k → k' < top → (∀ y ∈ suf, okD e y) → ML Em suf k k' → rounds step n (enc k pre.length) = some [I k']
  | [], pre, 0, k, k', _, hn, _, _, _, _ => by simp at hn
  | [], pre, n + 1, k, k', hl, hn, h0, h1, hok, hm => by
    have hk : k = k' := hm
    subst hk
    exact hexit _ _ _ (by rw [hl]; simp)
  | y :: suf, pre, 0, k, k', _, hn, _, _, _, _ => by simp at hn
  | y :: suf, pre, n + 1, k, k', hl, hn, h0, h1, hok, hm => by
    obtain ⟨k1, m1, m2⟩ := hm
    have hk1 := hmono _ _ _ m1
    have hk2 := ML.mono hmono m2
    refine hstep (rounds step n) k pre.length y k1 h0 (by omega) (by omega) (by rw [hl]; simp) (by rw [hl]; simp; omega) (hok y (by simp)) m1 _ ?_
    have : ((pre.length : Int) + 1) = ((pre ++ [y]).length : Int) := by simp
    rw [this]
    exact held_loop hmono hstep hexit suf (pre ++ [y]) n k1 k' (by rw [hl]; simp) (by simpa using hn) (by omega) h1 (fun y hy => hok y (List.mem_cons_of_mem _ hy)) m2

/-- Rows of atoms. -/
def EmB (b k k1 : Int) : Prop := b = IntKind.u8.wrap k ∧ k1 = k + 1
def EmI (b k k1 : Int) : Prop := b = k ∧ k1 = k + 1
def EmO (_ : Bool) (k k1 : Int) : Prop := k1 = k + 1
def HB (l : List Int) (k k' : Int) : Prop := ML EmB l k k'
def HI (l : List Int) (k k' : Int) : Prop := ML EmI l k k'
def HO (l : List Bool) (k k' : Int) : Prop := ML EmO l k k'
theorem HB.mono {l : List Int} {k k' : Int} (h : HB l k k') : k ≤ k' := ML.mono (fun y k k' h => by have := h.2; omega) h
theorem HI.mono {l : List Int} {k k' : Int} (h : HI l k k') : k ≤ k' := ML.mono (fun y k k' h => by have := h.2; omega) h
theorem HO.mono {l : List Bool} {k k' : Int} (h : HO l k k') : k ≤ k' := ML.mono (fun y k k' h => by have h : k' = k + 1 := h; omega) h

def mkByteIR : IR := .label true (.letE ⟨.len, [.var 4]⟩ (.letE ⟨.bin .lss 3, [.var 3, .var 5]⟩ (.ite (.var 6)
  (.letE ⟨.conv .u8, [.var 2]⟩ (.letE ⟨.idx 1, [.var 4, .var 3]⟩ (.letE ⟨.setE 1, [.var 4, .var 3, .var 7]⟩ (.letE ⟨.bin .add 3, [.var 2, .int .i64 1]⟩ (.letE ⟨.bin .add 3, [.var 3, .int .i64 1]⟩ (.jump 0 [.var 10, .var 11, .var 9]))))))
  (.ret [.var 2, .var 4])))) (.jump 0 [.var 0, .int .i64 0, .var 1])

theorem mkByte {l : List Int} {k : Int} (hl : okD (.sl (.int .u8)) l) (h0 : 0 ≤ k) (h1 : k + 1048577 < top) :
    ∃ (l' : List Int) (k' : Int), den F big mkByteIR [I k, S (.int .u8) l] [] = some [I k', S (.int .u8) l'] ∧ k ≤ k' ∧ k' ≤ k + 1048577 ∧ okD (.sl (.int .u8)) l' ∧ HB l' k k' := by
  have hlen : l.length < big := hl.1
  have hl2 : (l.length : Int) ≤ 1048577 := by unfold big at hlen; omega
  have key := mark_loop (e := .int .u8) (W := 1) (Em := EmB) (enc := fun k i l => [I k, I i, S (.int .u8) l])
    (step := fun J args => den F big (.letE ⟨.len, [.var 4]⟩ (.letE ⟨.bin .lss 3, [.var 3, .var 5]⟩ (.ite (.var 6)
      (.letE ⟨.conv .u8, [.var 2]⟩ (.letE ⟨.idx 1, [.var 4, .var 3]⟩ (.letE ⟨.setE 1, [.var 4, .var 3, .var 7]⟩ (.letE ⟨.bin .add 3, [.var 2, .int .i64 1]⟩ (.letE ⟨.bin .add 3, [.var 3, .int .i64 1]⟩ (.jump 0 [.var 10, .var 11, .var 9]))))))
      (.ret [.var 2, .var 4])))) ([I k, S (.int .u8) l] ++ args) ([] ++ [J])) (by decide)
    (fun J k i l y hk hk1 hi hy hm hil _ => ⟨IntKind.u8.wrap k, k + 1, by omega, by omega, trivial, ⟨rfl, rfl⟩, fun r hr => by
      simp only [List.cons_append, List.nil_append]
      refine den_let rfl (den_let rfl (den_ite (b := decide (i < (List.length l : Int))) rfl (fun _ => ?_) (fun h => absurd hil (by simpa using h))))
      simp only [List.cons_append, List.nil_append]
      refine den_let rfl (den_idx rfl rfl rfl hi hy (den_setE (z := IntKind.u8.wrap k) rfl rfl rfl rfl hi (by omega) (den_inc rfl hk (by omega) (den_up rfl hi (Int.le_of_lt hil) hm (den_jump rfl rfl hr)))))⟩)
    (fun J k i l h => by
      simp only [List.cons_append, List.nil_append]
      exact den_let rfl (den_let rfl (den_ite (b := decide (i < (List.length l : Int))) rfl (fun h' => absurd (by simpa using h') h) (fun _ => den_ret rfl rfl))))
    l [] big k hlen h0 (by omega) hlen (fun y _ => trivial)
  obtain ⟨l', k', e1, e2, _, e4, e5, e6⟩ := key
  refine ⟨l', k', den_loop (den_jump rfl rfl e1), e4, by omega, ⟨by show l'.length < big; rw [e2]; exact hlen, fun y _ => trivial⟩, e6⟩

def mkIntIR : IR := .label true (.letE ⟨.len, [.var 4]⟩ (.letE ⟨.bin .lss 3, [.var 3, .var 5]⟩ (.ite (.var 6)
  (.letE ⟨.idx 1, [.var 4, .var 3]⟩ (.letE ⟨.setE 1, [.var 4, .var 3, .var 2]⟩ (.letE ⟨.bin .add 3, [.var 2, .int .i64 1]⟩ (.letE ⟨.bin .add 3, [.var 3, .int .i64 1]⟩ (.jump 0 [.var 9, .var 10, .var 8])))))
  (.ret [.var 2, .var 4])))) (.jump 0 [.var 0, .int .i64 0, .var 1])

theorem mkInt {l : List Int} {k : Int} (hl : okD (.sl (.int .i64)) l) (h0 : 0 ≤ k) (h1 : k + 1048577 < top) :
    ∃ (l' : List Int) (k' : Int), den F big mkIntIR [I k, S (.int .i64) l] [] = some [I k', S (.int .i64) l'] ∧ k ≤ k' ∧ k' ≤ k + 1048577 ∧ okD (.sl (.int .i64)) l' ∧ HI l' k k' := by
  have hlen : l.length < big := hl.1
  have hl2 : (l.length : Int) ≤ 1048577 := by unfold big at hlen; omega
  have key := mark_loop (e := .int .i64) (W := 1) (Em := EmI) (enc := fun k i l => [I k, I i, S (.int .i64) l])
    (step := fun J args => den F big (.letE ⟨.len, [.var 4]⟩ (.letE ⟨.bin .lss 3, [.var 3, .var 5]⟩ (.ite (.var 6)
      (.letE ⟨.idx 1, [.var 4, .var 3]⟩ (.letE ⟨.setE 1, [.var 4, .var 3, .var 2]⟩ (.letE ⟨.bin .add 3, [.var 2, .int .i64 1]⟩ (.letE ⟨.bin .add 3, [.var 3, .int .i64 1]⟩ (.jump 0 [.var 9, .var 10, .var 8])))))
      (.ret [.var 2, .var 4])))) ([I k, S (.int .i64) l] ++ args) ([] ++ [J])) (by decide)
    (fun J k i l y hk hk1 hi hy hm hil _ => ⟨k, k + 1, by omega, by omega, trivial, ⟨rfl, rfl⟩, fun r hr => by
      simp only [List.cons_append, List.nil_append]
      refine den_let rfl (den_let rfl (den_ite (b := decide (i < (List.length l : Int))) rfl (fun _ => ?_) (fun h => absurd hil (by simpa using h))))
      simp only [List.cons_append, List.nil_append]
      refine den_idx rfl rfl rfl hi hy (den_setE (e := .int .i64) (z := k) rfl rfl rfl rfl hi (by omega) (den_inc rfl hk (by omega) (den_up rfl hi (Int.le_of_lt hil) hm (den_jump rfl rfl hr))))⟩)
    (fun J k i l h => by
      simp only [List.cons_append, List.nil_append]
      exact den_let rfl (den_let rfl (den_ite (b := decide (i < (List.length l : Int))) rfl (fun h' => absurd (by simpa using h') h) (fun _ => den_ret rfl rfl))))
    l [] big k hlen h0 (by omega) hlen (fun y _ => trivial)
  obtain ⟨l', k', e1, e2, _, e4, e5, e6⟩ := key
  refine ⟨l', k', den_loop (den_jump rfl rfl e1), e4, by omega, ⟨by show l'.length < big; rw [e2]; exact hlen, fun y _ => trivial⟩, e6⟩

def mkBoolIR : IR := .label true (.letE ⟨.len, [.var 4]⟩ (.letE ⟨.bin .lss 3, [.var 3, .var 5]⟩ (.ite (.var 6)
  (.letE ⟨.bin .rem 3, [.var 2, .int .i64 3]⟩ (.letE ⟨.bin .eql 3, [.var 7, .int .i64 0]⟩
  (.letE ⟨.idx 1, [.var 4, .var 3]⟩ (.letE ⟨.setE 1, [.var 4, .var 3, .var 8]⟩ (.letE ⟨.bin .add 3, [.var 2, .int .i64 1]⟩ (.letE ⟨.bin .add 3, [.var 3, .int .i64 1]⟩ (.jump 0 [.var 11, .var 12, .var 10])))))))
  (.ret [.var 2, .var 4])))) (.jump 0 [.var 0, .int .i64 0, .var 1])

theorem mkBool {l : List Bool} {k : Int} (hl : okD (.sl .bool) l) (h0 : 0 ≤ k) (h1 : k + 1048577 < top) :
    ∃ (l' : List Bool) (k' : Int), den F big mkBoolIR [I k, S .bool l] [] = some [I k', S .bool l'] ∧ k ≤ k' ∧ k' ≤ k + 1048577 ∧ okD (.sl .bool) l' ∧ HO l' k k' := by
  have hlen : l.length < big := hl.1
  have hl2 : (l.length : Int) ≤ 1048577 := by unfold big at hlen; omega
  have hev : ∀ k : Int, ∃ b : Int, evX (.bin .rem 3) [I k, I 3] = some (I b) := fun k => ⟨_, rfl⟩
  have key := mark_loop (e := .bool) (W := 1) (Em := EmO) (enc := fun k i l => [I k, I i, S .bool l])
    (step := fun J args => den F big (.letE ⟨.len, [.var 4]⟩ (.letE ⟨.bin .lss 3, [.var 3, .var 5]⟩ (.ite (.var 6)
      (.letE ⟨.bin .rem 3, [.var 2, .int .i64 3]⟩ (.letE ⟨.bin .eql 3, [.var 7, .int .i64 0]⟩
      (.letE ⟨.idx 1, [.var 4, .var 3]⟩ (.letE ⟨.setE 1, [.var 4, .var 3, .var 8]⟩ (.letE ⟨.bin .add 3, [.var 2, .int .i64 1]⟩ (.letE ⟨.bin .add 3, [.var 3, .int .i64 1]⟩ (.jump 0 [.var 11, .var 12, .var 10])))))))
      (.ret [.var 2, .var 4])))) ([I k, S .bool l] ++ args) ([] ++ [J])) (by decide)
    (fun J k i l y hk hk1 hi hy hm hil _ => by
      obtain ⟨b, hb⟩ := hev k
      refine ⟨decide (b = 0), k + 1, by omega, by omega, trivial, rfl, fun r hr => ?_⟩
      simp only [List.cons_append, List.nil_append]
      refine den_let rfl (den_let rfl (den_ite (b := decide (i < (List.length l : Int))) rfl (fun _ => ?_) (fun h => absurd hil (by simpa using h))))
      simp only [List.cons_append, List.nil_append]
      refine den_let (d := I b) hb (den_let rfl (den_idx rfl rfl rfl hi hy (den_setE (z := decide (b = 0)) rfl rfl rfl rfl hi (by omega) (den_inc rfl hk (by omega) (den_up rfl hi (Int.le_of_lt hil) hm (den_jump rfl rfl hr))))))
      )
    (fun J k i l h => by
      simp only [List.cons_append, List.nil_append]
      exact den_let rfl (den_let rfl (den_ite (b := decide (i < (List.length l : Int))) rfl (fun h' => absurd (by simpa using h') h) (fun _ => den_ret rfl rfl))))
    l [] big k hlen h0 (by omega) hlen (fun y _ => trivial)
  obtain ⟨l', k', e1, e2, _, e4, e5, e6⟩ := key
  refine ⟨l', k', den_loop (den_jump rfl rfl e1), e4, by omega, ⟨by show l'.length < big; rw [e2]; exact hlen, fun y _ => trivial⟩, e6⟩

def hdByteIR : IR := .label true (.letE ⟨.len, [.var 0]⟩ (.letE ⟨.bin .lss 3, [.var 4, .var 5]⟩ (.ite (.var 6)
  (.letE ⟨.idx 1, [.var 0, .var 4]⟩ (.letE ⟨.a, [.fld (.var 7) 0]⟩ (.letE ⟨.conv .u8, [.var 3]⟩ (.letE ⟨.bin .neq 5, [.var 8, .var 9]⟩ (.ite (.var 10) (.ret [.int .i64 (-1)])
  (.letE ⟨.bin .add 3, [.var 3, .int .i64 1]⟩ (.letE ⟨.bin .add 3, [.var 4, .int .i64 1]⟩ (.jump 0 [.var 2, .var 11, .var 12]))))))))
  (.ret [.var 3])))) (.jump 0 [.int .i64 0, .var 1, .int .i64 0])

theorem hdByte {l : List Int} {k k' : Int} (hl : okD (.sl (.int .u8)) l) (h0 : 0 ≤ k) (h1 : k' < top) (hh : HB l k k') : den F big hdByteIR [S (.int .u8) l, I k] [] = some [I k'] := by
  have hlen : l.length < big := hl.1
  refine den_loop (den_jump rfl rfl ?_)
  refine held_loop (e := .int .u8) (Em := EmB) (enc := fun k i => [I 0, I k, I i]) (l0 := l) (fun y k k' h => by have := h.2; omega) (fun J k i y k1 hk hk1 hi hy hil _ hE r hr => ?_) (fun J k i h => ?_) l [] big k k' rfl hlen h0 h1 (fun y _ => trivial) hh
  · obtain ⟨rfl, rfl⟩ := hE
    simp only [List.cons_append, List.nil_append]
    refine den_let rfl (den_let rfl (den_ite (b := decide (i < (List.length l : Int))) rfl (fun _ => ?_) (fun h => absurd hil (by simpa using h))))
    simp only [List.cons_append, List.nil_append]
    refine den_idx rfl rfl rfl hi hy (den_let rfl (den_let rfl (den_let rfl (den_ite rfl (fun h => by simp at h) (fun _ => ?_)))))
    simp only [List.cons_append, List.nil_append]
    exact den_inc rfl hk (by omega) (den_up rfl hi (Int.le_of_lt hil) hlen (den_jump rfl rfl hr))
  · simp only [List.cons_append, List.nil_append]
    exact den_let rfl (den_let rfl (den_ite (b := decide (i < (List.length l : Int))) rfl (fun h' => absurd (by simpa using h') h) (fun _ => den_ret rfl rfl)))

def hdIntIR : IR := .label true (.letE ⟨.len, [.var 0]⟩ (.letE ⟨.bin .lss 3, [.var 4, .var 5]⟩ (.ite (.var 6)
  (.letE ⟨.idx 1, [.var 0, .var 4]⟩ (.letE ⟨.a, [.fld (.var 7) 0]⟩ (.letE ⟨.bin .neq 3, [.var 8, .var 3]⟩ (.ite (.var 9) (.ret [.int .i64 (-1)])
  (.letE ⟨.bin .add 3, [.var 3, .int .i64 1]⟩ (.letE ⟨.bin .add 3, [.var 4, .int .i64 1]⟩ (.jump 0 [.var 2, .var 10, .var 11])))))))
  (.ret [.var 3])))) (.jump 0 [.int .i64 0, .var 1, .int .i64 0])

theorem hdInt {l : List Int} {k k' : Int} (hl : okD (.sl (.int .i64)) l) (h0 : 0 ≤ k) (h1 : k' < top) (hh : HI l k k') : den F big hdIntIR [S (.int .i64) l, I k] [] = some [I k'] := by
  have hlen : l.length < big := hl.1
  refine den_loop (den_jump rfl rfl ?_)
  refine held_loop (e := .int .i64) (Em := EmI) (enc := fun k i => [I 0, I k, I i]) (l0 := l) (fun y k k' h => by have := h.2; omega) (fun J k i y k1 hk hk1 hi hy hil _ hE r hr => ?_) (fun J k i h => ?_) l [] big k k' rfl hlen h0 h1 (fun y _ => trivial) hh
  · obtain ⟨rfl, rfl⟩ := hE
    simp only [List.cons_append, List.nil_append]
    refine den_let rfl (den_let rfl (den_ite (b := decide (i < (List.length l : Int))) rfl (fun _ => ?_) (fun h => absurd hil (by simpa using h))))
    simp only [List.cons_append, List.nil_append]
    refine den_idx rfl rfl rfl hi hy (den_let rfl (den_let rfl (den_ite rfl (fun h => by simp at h) (fun _ => ?_))))
    simp only [List.cons_append, List.nil_append]
    exact den_inc rfl hk (by omega) (den_up rfl hi (Int.le_of_lt hil) hlen (den_jump rfl rfl hr))
  · simp only [List.cons_append, List.nil_append]
    exact den_let rfl (den_let rfl (den_ite (b := decide (i < (List.length l : Int))) rfl (fun h' => absurd (by simpa using h') h) (fun _ => den_ret rfl rfl)))
end
end Go.Vm
