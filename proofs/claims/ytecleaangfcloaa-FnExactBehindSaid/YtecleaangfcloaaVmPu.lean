/- Steps of the language of values, for proofs about its texts. Lemmas alone, no statement. -/
import Derived.Test.YtecleaangfcloaaVmFn
namespace Go.Vm
set_option linter.unusedVariables false
set_option linter.unusedSimpArgs false

abbrev I (n : Int) : Dy := ⟨.int .i64, n⟩
abbrev B (b : Bool) : Dy := ⟨.bool, b⟩
abbrev S (e : Ty) (l : List (D e)) : Dy := ⟨.sl e, l⟩

section
variable {F : Fns} {N : Nat} {ρ : List Dy} {Ls : List Lb} {r : Option (List Dy)}

theorem den_let {e : Ex} {k : IR} {d : Dy} (h : ev ρ e = some d) (hk : den F N k (ρ ++ [d]) Ls = r) : den F N (.letE e k) ρ Ls = r := by
  simp only [den, h]; exact hk

theorem den_call {f n : Nat} {xs : List A} {k : IR} {ds rs : List Dy} (h : evAs ρ xs = some ds) (hF : F f ds = some rs) (hn : rs.length = n) (hk : den F N k (ρ ++ rs) Ls = r) : den F N (.call f xs n k) ρ Ls = r := by
  simp only [den, h, hF, hn, if_true]; exact hk

theorem den_ite {c : A} {t e : IR} {b : Bool} (h : evA ρ c = some ⟨.bool, b⟩) (ht : b = true → den F N t ρ Ls = r) (he : b = false → den F N e ρ Ls = r) : den F N (.ite c t e) ρ Ls = r := by
  simp only [den, h]
  cases b
  · exact he rfl
  · exact ht rfl

theorem den_amb {ne : Bool} {x : A} {t e : IR} {rs : List Dy} {τ : Ty} {l : List (D τ)} (hx : evA ρ x = some ⟨.sl τ, l⟩) (h0 : l = [] → den F N t ρ Ls = some rs ∧ den F N e ρ Ls = some rs) (h1 : l ≠ [] → den F N (bif ne then t else e) ρ Ls = some rs) : den F N (.amb ne x t e) ρ Ls = some rs := by
  by_cases hl : List.length l = 0
  · obtain ⟨ht, he⟩ := h0 (List.eq_nil_of_length_eq_zero hl)
    simp only [den, hx, hl, if_true, ht, he]
  · have := h1 (fun h => hl (by rw [h]; rfl))
    simp only [den, hx, hl, if_false]
    cases ne <;> simpa using this

theorem den_ret {xs : List A} {ds : List Dy} (h : evAs ρ xs = some ds) (hr : r = some ds) : den F N (.ret xs) ρ Ls = r := by
  rw [hr]; exact h

theorem den_loop {body main : IR} (h : den F N main ρ (Ls ++ [rounds (fun J args => den F N body (ρ ++ args) (Ls ++ [J])) N]) = r) : den F N (.label true body main) ρ Ls = r := h

theorem den_join {body main : IR} (h : den F N main ρ (Ls ++ [fun args => den F N body (ρ ++ args) (Ls ++ [fun _ => none])]) = r) : den F N (.label false body main) ρ Ls = r := h

theorem den_jump {l : Nat} {xs : List A} {J : Lb} {ds : List Dy} (hJ : Ls[l]? = some J) (h : evAs ρ xs = some ds) (hk : J ds = r) : den F N (.jump l xs) ρ Ls = r := by
  simp only [den, hJ, h]; exact hk

theorem den_idx {m : Nat} {a b : A} {k : IR} {e : Ty} {l : List (D e)} {q : IntKind} {n : Int} {y : D e} (ha : evA ρ a = some ⟨.sl e, l⟩) (hb : evA ρ b = some ⟨.int q, n⟩) (hm : e.n = m) (h0 : 0 ≤ n) (hl : l[n.toNat]? = some y)
    (hk : den F N k (ρ ++ [⟨e, y⟩]) Ls = r) : den F N (.letE ⟨.idx m, [a, b]⟩ k) ρ Ls = r := by
  refine den_let (d := ⟨e, y⟩) ?_ hk
  simp only [ev, evAs, ha, hb, evX, hm, h0, and_self, if_true, hl]

theorem den_setE {m : Nat} {a b c : A} {k : IR} {e : Ty} {l : List (D e)} {q : IntKind} {n : Int} {z : D e} (ha : evA ρ a = some ⟨.sl e, l⟩) (hb : evA ρ b = some ⟨.int q, n⟩) (hc : evA ρ c = some ⟨e, z⟩) (hm : e.n = m) (h0 : 0 ≤ n) (hl : n.toNat < l.length)
    (hk : den F N k (ρ ++ [⟨.sl e, l.set n.toNat z⟩]) Ls = r) : den F N (.letE ⟨.setE m, [a, b, c]⟩ k) ρ Ls = r := by
  refine den_let (d := ⟨.sl e, l.set n.toNat z⟩) ?_ hk
  simp only [ev, evAs, ha, hb, hc, evX, hm, h0, hl, and_self, if_true, Dy.as, dif_pos]

theorem den_app {a b : A} {k : IR} {e : Ty} {l m : List (D e)} (ha : evA ρ a = some ⟨.sl e, l⟩) (hb : evA ρ b = some ⟨.sl e, m⟩) (hl : l.length + m.length < maxRow)
    (hk : den F N k (ρ ++ [⟨.sl e, l ++ m⟩]) Ls = r) : den F N (.letE ⟨.app e, [a, b]⟩ k) ρ Ls = r := by
  refine den_let (d := ⟨.sl e, l ++ m⟩) ?_ hk
  simp only [ev, evAs, ha, hb, evX, Dy.as, dif_pos, hl, if_true]
  rfl

theorem den_rep {a b : A} {k : IR} {e : Ty} {q : IntKind} {n : Int} {y : D e} (ha : evA ρ a = some ⟨.int q, n⟩) (hb : evA ρ b = some ⟨e, y⟩) (h0 : 0 ≤ n) (hl : n < maxRow)
    (hk : den F N k (ρ ++ [⟨.sl e, List.replicate n.toNat y⟩]) Ls = r) : den F N (.letE ⟨.rep e, [a, b]⟩ k) ρ Ls = r := by
  refine den_let (d := ⟨.sl e, List.replicate n.toNat y⟩) ?_ hk
  simp only [ev, evAs, ha, hb, evX, Dy.as, dif_pos, h0, hl, and_self, if_true]

/-- A place where ways meet, with one bool: what comes behind is settled first. -/
theorem den_joinB {body main : IR} (f : Bool → Option (List Dy)) (hb : ∀ b, den F N body (ρ ++ [⟨.bool, b⟩]) (Ls ++ [fun _ => none]) = f b) (hm : ∀ J : Lb, (∀ b, J [⟨.bool, b⟩] = f b) → den F N main ρ (Ls ++ [J]) = r) : den F N (.label false body main) ρ Ls = r :=
  hm _ hb

theorem den_joinA {α : Type} {body main : IR} (enc : α → List Dy) (f : α → Option (List Dy)) (hb : ∀ a, den F N body (ρ ++ enc a) (Ls ++ [fun _ => none]) = f a) (hm : ∀ J : Lb, (∀ a, J (enc a) = f a) → den F N main ρ (Ls ++ [J]) = r) : den F N (.label false body main) ρ Ls = r :=
  hm _ hb

theorem den_joinP {body main : IR} (P : Bool → Prop) (f : Bool → Option (List Dy)) (hb : ∀ b, P b → den F N body (ρ ++ [⟨.bool, b⟩]) (Ls ++ [fun _ => none]) = f b) (hm : ∀ J : Lb, (∀ b, P b → J [⟨.bool, b⟩] = f b) → den F N main ρ (Ls ++ [J]) = r) : den F N (.label false body main) ρ Ls = r :=
  hm _ hb

theorem level_den {Sn : Nat → Option Sig} {Bn : Fns} {T : Nat → Option (Sig × IR)} {k f : Nat} {s : Sig} {ir : IR} {ds : List Dy} {rs : List Dy} (hT : T f = some (s, ir)) (hl : ds.length = s.nin) (h : den (level Sn Bn T N k) N ir ds [] = some rs) (ht : rs.map (·.1) = s.tys)
    (hS : (Sn f).isSome = false := by rfl) (hb : s.inB ds = true := by first | rfl | decide) : level Sn Bn T N (k + 1) f ds = some rs := by
  simp only [level, hS, Bool.false_eq_true, if_false, hT, fnDen, hl, hb, and_self, if_true, h, ht]

/-- A loop whose rounds are counted. -/
theorem rounds_ind {α : Type} {step : Lb → Lb} {enc : α → List Dy} {ans : α → Option (List Dy)} {meas : α → Nat} {Q : α → Prop}
    (h : ∀ (J : Lb) (a : α), Q a → (∀ b, Q b → meas b < meas a → J (enc b) = ans b) → step J (enc a) = ans a) : ∀ (n : Nat) (a : α), Q a → meas a < n → rounds step n (enc a) = ans a
  | 0, a, _, hn => by omega
  | n + 1, a, hq, hn => h (rounds step n) a hq (fun b hb hlt => rounds_ind h n b hb (by omega))

/-- An answer of which something is known. -/
def Ans (o : Option (List Dy)) (Q : List Dy → Prop) : Prop := ∃ rs, o = some rs ∧ Q rs

section
variable {Q : List Dy → Prop}
theorem ans_let {e : Ex} {k : IR} {d : Dy} (h : ev ρ e = some d) (hk : Ans (den F N k (ρ ++ [d]) Ls) Q) : Ans (den F N (.letE e k) ρ Ls) Q := by
  obtain ⟨rs, h1, h2⟩ := hk; exact ⟨rs, den_let h h1, h2⟩
theorem ans_call {f n : Nat} {xs : List A} {k : IR} {ds rs : List Dy} (h : evAs ρ xs = some ds) (hF : F f ds = some rs) (hn : rs.length = n) (hk : Ans (den F N k (ρ ++ rs) Ls) Q) : Ans (den F N (.call f xs n k) ρ Ls) Q := by
  obtain ⟨rs', h1, h2⟩ := hk; exact ⟨rs', den_call h hF hn h1, h2⟩
theorem ans_ite {c : A} {t e : IR} {b : Bool} (h : evA ρ c = some ⟨.bool, b⟩) (ht : b = true → Ans (den F N t ρ Ls) Q) (he : b = false → Ans (den F N e ρ Ls) Q) : Ans (den F N (.ite c t e) ρ Ls) Q := by
  cases b
  · obtain ⟨rs, h1, h2⟩ := he rfl; exact ⟨rs, den_ite h (fun hb => by cases hb) (fun _ => h1), h2⟩
  · obtain ⟨rs, h1, h2⟩ := ht rfl; exact ⟨rs, den_ite h (fun _ => h1) (fun hb => by cases hb), h2⟩
theorem ans_ret {xs : List A} {ds : List Dy} (h : evAs ρ xs = some ds) (hq : Q ds) : Ans (den F N (.ret xs) ρ Ls) Q := ⟨ds, h, hq⟩
theorem ans_loop {body main : IR} (h : Ans (den F N main ρ (Ls ++ [rounds (fun J args => den F N body (ρ ++ args) (Ls ++ [J])) N])) Q) : Ans (den F N (.label true body main) ρ Ls) Q := h
theorem ans_join {body main : IR} (h : Ans (den F N main ρ (Ls ++ [fun args => den F N body (ρ ++ args) (Ls ++ [fun _ => none])])) Q) : Ans (den F N (.label false body main) ρ Ls) Q := h
theorem ans_jump {l : Nat} {xs : List A} {J : Lb} {ds : List Dy} (hJ : Ls[l]? = some J) (h : evAs ρ xs = some ds) (hk : Ans (J ds) Q) : Ans (den F N (.jump l xs) ρ Ls) Q := by
  obtain ⟨rs, h1, h2⟩ := hk; exact ⟨rs, den_jump hJ h h1, h2⟩
theorem ans_idx {m : Nat} {a b : A} {k : IR} {e : Ty} {l : List (D e)} {q : IntKind} {n : Int} {y : D e} (ha : evA ρ a = some ⟨.sl e, l⟩) (hb : evA ρ b = some ⟨.int q, n⟩) (hm : e.n = m) (h0 : 0 ≤ n) (hl : l[n.toNat]? = some y)
    (hk : Ans (den F N k (ρ ++ [⟨e, y⟩]) Ls) Q) : Ans (den F N (.letE ⟨.idx m, [a, b]⟩ k) ρ Ls) Q := by
  obtain ⟨rs, h1, h2⟩ := hk; exact ⟨rs, den_idx ha hb hm h0 hl h1, h2⟩
theorem ans_level {Sn : Nat → Option Sig} {Bn : Fns} {T : Nat → Option (Sig × IR)} {k f : Nat} {s : Sig} {ir : IR} {ds : List Dy} (hT : T f = some (s, ir)) (hl : ds.length = s.nin) (h : Ans (den (level Sn Bn T N k) N ir ds []) Q) (ht : ∀ rs, Q rs → rs.map (·.1) = s.tys)
    (hS : (Sn f).isSome = false := by rfl) (hb : s.inB ds = true := by first | rfl | decide) : Ans (level Sn Bn T N (k + 1) f ds) Q := by
  obtain ⟨rs, h1, h2⟩ := h; exact ⟨rs, level_den hT hl h1 (ht rs h2) hS hb, h2⟩
theorem rounds_ans {α : Type} {step : Lb → Lb} {enc : α → List Dy} {Post : α → List Dy → Prop} {meas : α → Nat} {R : α → Prop}
    (h : ∀ (J : Lb) (a : α), R a → (∀ b, R b → meas b < meas a → Ans (J (enc b)) (Post b)) → Ans (step J (enc a)) (Post a)) : ∀ (n : Nat) (a : α), R a → meas a < n → Ans (rounds step n (enc a)) (Post a)
  | 0, a, _, hn => by omega
  | n + 1, a, hq, hn => h (rounds step n) a hq (fun b hb hlt => rounds_ans h n b hb (by omega))
theorem Ans.imp {o : Option (List Dy)} {Q R : List Dy → Prop} (h : Ans o Q) (hi : ∀ rs, Q rs → R rs) : Ans o R := by
  obtain ⟨rs, h1, h2⟩ := h; exact ⟨rs, h1, hi rs h2⟩
end

theorem wrap_id {n : Int} (h0 : -9223372036854775808 ≤ n) (h1 : n ≤ 9223372036854775807) : IntKind.i64.wrap n = n := by
  rw [IntKind.wrap_i64]; omega
end
end Go.Vm
