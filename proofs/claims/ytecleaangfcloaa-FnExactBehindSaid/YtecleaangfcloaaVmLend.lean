/- What a call is lent, and how it comes back. Lemmas alone, no statement. -/
import Derived.Test.YtecleaangfcloaaVmNew
namespace Go.Vm
set_option linter.unusedVariables false
set_option linter.unusedSimpArgs false
open Go.RowKit

/-- What is lent: L, its blocks; out: when it comes back. -/
def LentRep (q : Lk) (out : Bool) (sh : Nat → Prop) (w : World) (d : Dy) (v : Value) (L : List Nat) : Prop :=
  match q with
  | .row τ => ValRep sh w d (Md.deep τ) v L
  | .mov τ m => ValRep sh w d m v L
  | .box τ m m' => ∃ b c ty K, v = .pointer (some ⟨b, 0, none⟩) ∧ L = b :: K ∧ w.heap[b]? = some (.cells c ty (0, 0)) ∧ Rep sh w d.1 (bif out then m' else m) d.2 c.toList K

/-- A call has come back: Lb was lent, L is given back. -/
structure Back (sh : Nat → Prop) (w : World) (sh' : Nat → Prop) (w' : World) (Lb L : List Nat) : Prop where
  ext : Ext w w' Lb
  mono : ∀ b, sh b → sh' b
  new : ∀ b, sh' b → b < w'.heap.size ∧ (sh b ∨ b ∈ Lb ∨ w.heap.size ≤ b)
  nd : L.Nodup
  own : ∀ b ∈ L, (b ∈ Lb ∨ w.heap.size ≤ b) ∧ b < w'.heap.size ∧ ¬ sh' b

section
variable {P : Program} {C : Nat → Option Sig} {Fn : Fns} {sh0 : Nat → Prop} {w0 : World} {G0 : Frm} {ρ : List Dy} {σ : Sg} {a : Act} {w w' : World}
  {sh sh' : Nat → Prop} {F : Bool → Nat → List Nat} {β : Nat → Nat} {o : Oper} {st : Step} {l : List (Bool × Nat)} {d : Nat} {Q : Exit → Act → World → Prop} {Lb L X : List Nat}

/-- An empty row is owned in any mode. -/
theorem nil_own {e : Ty} {m m' : Md} {vs : List Value} {X : List Nat} (h : Rep sh w (.sl e) (.own m) [] vs X) : Rep sh w (.sl e) (.own m') [] vs X := by
  obtain ⟨ad, cap, h1, h2, h3⟩ := h
  refine ⟨ad, cap, h1, h2, h3.imp id ?_⟩
  rintro ⟨b, c, ty, fz, F', k1, k2, k3, k4, k5, k6⟩
  exact ⟨b, c, ty, fz, F', k1, k2, k3, k4, k5, k6⟩

theorem coe_rep {x : A} {m m' : Md} {d : Dy} {vs : List Value} {X : List Nat} (hc : coe x m m' = true) (hx : evA ρ x = some d) (h : Rep sh w d.1 m' d.2 vs X) : Rep sh w d.1 m d.2 vs X := by
  unfold coe at hc
  simp only [Bool.or_eq_true, beq_iff_eq] at hc
  rcases hc with rfl | hc
  · exact h
  · split at hc
    · simp only [evA, Option.some.injEq] at hx
      subst hx
      exact nil_own h
    · cases hc

theorem coeR_rep {x : A} {m m' : Md} {d : Dy} {vs : List Value} {X : List Nat} (hc : coeR x m m' = true) (hx : evA ρ x = some d) (h : Rep sh w d.1 m' d.2 vs X) :
    ∃ X', (X' = X ∨ X' = []) ∧ Rep sh w d.1 m d.2 vs X' := by
  unfold coeR at hc
  simp only [Bool.or_eq_true, beq_iff_eq] at hc
  rcases hc with rfl | hc
  · exact ⟨X, .inl rfl, h⟩
  · split at hc
    · simp only [evA, Option.some.injEq] at hx
      subst hx
      exact ⟨X, .inl rfl, nil_own h⟩
    · simp only [evA, Option.some.injEq] at hx
      subst hx
      obtain ⟨ad, cap, h1, h2, _⟩ := h
      exact ⟨[], .inr rfl, ad, cap, h1, h2, rfl, .inl rfl⟩
    · cases hc

/-- Cells put together. -/
theorem matchM_rep : ∀ {cs : List Cell} {m : Md} {xs : List A} {vs : List Value} {X : List Nat} {ds : List Dy} {r : Dy}, matchM m cs = some xs → RepL (one (CellRep sh w ρ)) cs vs X → evAs ρ xs = some ds → Dy.ofCells ds = some r →
    ∃ X', (∀ b ∈ X', b ∈ X) ∧ (X.Nodup → X'.Nodup) ∧ Rep sh w r.1 m r.2 vs X' ∧ r.1.isAgg = true
  | [], m, xs, vs, X, ds, r, hm, hr, he, hd => by
    simp only [matchM, Option.some.injEq] at hm
    subst hm
    simp only [evAs, Option.some.injEq] at he
    subst he
    simp only [Dy.ofCells, Option.some.injEq] at hd
    subst hd
    obtain ⟨rfl, rfl⟩ := hr
    exact ⟨[], by simp, by simp, ⟨rfl, rfl⟩, rfl⟩
  | none :: cs, m, xs, vs, X, ds, r, hm, hr, he, hd => by simp [matchM] at hm
  | some (x, m') :: cs, m, xs, vs, X, ds, r, hm, hr, he, hd => by
    simp only [matchM] at hm
    split at hm
    · rename_i hc
      obtain ⟨ys, hy, rfl⟩ := Option.map_eq_some_iff.1 hm
      obtain ⟨v1, v2, F1, F2, rfl, rfl, ⟨v, rfl, d, e1, e2, e3⟩, hrest⟩ := hr
      obtain ⟨d', es, k1, k2, rfl⟩ := evAs_cons he
      obtain rfl := some_eq e1 k1
      unfold Dy.ofCells at hd
      rw [if_neg (by simp [e2])] at hd
      cases hq : Dy.ofCells es with
      | none => rw [hq] at hd; cases hd
      | some q =>
        rw [hq] at hd
        simp only [Option.some.injEq] at hd
        subst hd
        obtain ⟨X2, a1, a2, a3, a4⟩ := matchM_rep hy hrest k2 hq
        obtain ⟨X1, b1, b2⟩ := coeR_rep hc e1 e3
        have hsub : ∀ b ∈ X1, b ∈ F1 := by rcases b1 with rfl | rfl <;> simp
        refine ⟨X1 ++ X2, fun b hb => ?_, fun hn => ?_, ⟨[v], v2, X1, X2, rfl, rfl, b2, a3⟩, rfl⟩
        · rcases List.mem_append.1 hb with hb | hb
          · exact List.mem_append_left _ (hsub b hb)
          · exact List.mem_append_right _ (a1 b hb)
        · have h4 := List.nodup_append.1 hn
          refine List.nodup_append.2 ⟨by rcases b1 with rfl | rfl; exact h4.1; simp, a2 h4.2.1, fun x hx y hy => h4.2.2 x (hsub x hx) y (a1 y hy)⟩
    · cases hm

theorem valRep_one {d : Dy} {m : Md} {v : Value} {X : List Nat} (ha : d.1.isAgg = false) (h : ValRep sh w d m v X) : Rep sh w d.1 m d.2 [v] X := by
  obtain ⟨vs, hv, hr⟩ := h
  obtain ⟨u, rfl⟩ := hr.single ha
  have hv : v = u := by rw [hv, ha]; rfl
  rw [hv]; exact hr

theorem coe_val {x : A} {m m' : Md} {d : Dy} {v : Value} {X : List Nat} (hc : coe x m m' = true) (hx : evA ρ x = some d) (h : ValRep sh w d m' v X) : ValRep sh w d m v X := by
  obtain ⟨vs, hv, hr⟩ := h
  exact ⟨vs, hv, coe_rep hc hx hr⟩

theorem boxCells_rep {τ : Ty} {m : Md} {j : Nat} {d : Dy} {vs : List Value} {K : List Nat} (hfl : τ.isAgg = true → τ.flat = true) (hty : d.1 = τ) (hd : evA ρ (.var j) = some d) (h : Rep sh w d.1 m d.2 vs K) : RepL (one (CellRep sh w ρ)) (boxCells τ m j) vs K := by
  unfold boxCells
  split
  · rename_i hag
    have := flat_cells (b := .var j) (d := d) (off := 0) (by rw [hty]; exact hfl hag) h hd (fun c => by simp [Dy.cell, hty, hag])
    rwa [hty] at this
  · rename_i hag
    have hag : d.1.isAgg = false := by rw [hty]; simpa using hag
    obtain ⟨u, rfl⟩ := h.single hag
    exact ⟨[u], [], K, [], rfl, by simp, ⟨u, rfl, d, hd, hag, h⟩, rfl, rfl⟩

theorem Back.old (h : Back sh w sh' w' Lb L) {b : Nat} (hb : b < w.heap.size) (hl : b ∉ Lb) (hs : ¬ sh b) : w'.heap[b]? = w.heap[b]? ∧ b < w'.heap.size ∧ ¬ sh' b :=
  ⟨h.ext.block b hb hl, Nat.lt_of_lt_of_le hb h.ext.size, fun hn => by
    rcases (h.new b hn).2 with h1 | h1 | h1
    · exact hs h1
    · exact hl h1
    · exact Nat.lt_irrefl _ (Nat.lt_of_lt_of_le hb h1)⟩

theorem Back.shw (h : Back sh w sh' w' Lb L) (hs : ∀ b, sh b → b < w.heap.size) (hl : ∀ b ∈ Lb, ¬ sh b) : ∀ b, sh b → sh' b ∧ w'.heap[b]? = w.heap[b]? :=
  fun b hb => ⟨h.mono b hb, h.ext.block b (hs b hb) (fun hm => hl b hm hb)⟩

/-- What was lent is no one's: the others are as they were. -/
theorem InvG.came (h : InvG sh0 w0 G0 ρ σ a w sh F β) (hf : Free G0 w0 w sh F X) (hX : ∀ b ∈ Lb, b ∈ X) (hb : Back sh w sh' w' Lb L) : InvG sh0 w0 G0 ρ σ a w' sh' F β :=
  h.turn hb.ext (fun b hm => ⟨hf.out b (hX b hm), (hf.own b (hX b hm)).2.2, (hf.own b (hX b hm)).1⟩) hb.mono (fun b hs => ⟨(hb.new b hs).1, by
    rcases (hb.new b hs).2 with h1 | h1 | h1
    · exact .inl h1
    · exact .inr (.inr ⟨(hf.own b (hX b h1)).1, hf.out b (hX b h1)⟩)
    · exact .inr (.inl h1)⟩)

/-- What comes back, and what was not lent of it, is still no one's. -/
theorem Free.came {X2 : List Nat} (h : InvG sh0 w0 G0 ρ σ a w sh F β) (hf : Free G0 w0 w sh F X) (hX : ∀ b ∈ Lb, b ∈ X) (hb : Back sh w sh' w' Lb L) (hn : X2.Nodup) (h2 : ∀ b ∈ X2, b ∈ L ∨ (b ∈ X ∧ b ∉ Lb)) : Free G0 w0 w' sh' F X2 := by
  refine ⟨hn, fun b hm => ?_, fun b hm k i hF => ?_⟩
  · rcases h2 b hm with h1 | ⟨h1, h3⟩
    · obtain ⟨o1, o2, o3⟩ := hb.own b h1
      refine ⟨?_, o2, o3⟩
      rcases o1 with o1 | o1
      · exact (hf.own b (hX b o1)).1
      · exact .inr (Nat.le_trans h.ext.size o1)
    · obtain ⟨o1, o2, o3⟩ := hf.own b h1
      exact ⟨o1, (hb.old o2 h3 o3).2⟩
  · rcases h2 b hm with h1 | ⟨h1, _⟩
    · rcases (hb.own b h1).1 with o1 | o1
      · exact hf.out b (hX b o1) k i hF
      · exact Nat.lt_irrefl _ (Nat.lt_of_lt_of_le (h.own k i b hF).2.1 o1)
    · exact hf.out b h1 k i hF

/-- What the owners own behind the call. -/
def Lent (w : World) (Lb L : List Nat) (F3 : Bool → Nat → List Nat) : Prop := ∀ k i, ∀ b ∈ F3 k i, b ∈ L ∨ (b < w.heap.size ∧ b ∉ Lb)

/-- A slot lends (a part of) what it owns. -/
theorem InvG.lendSlot (h : InvG sh0 w0 G0 ρ σ a w sh F β) {i : Nat} {y : A} {m : Md} (hs : σ.slots[i]? = some (.at y m)) :
    ∃ v X d, a.tmps[i]? = some v ∧ evA ρ y = some d ∧ ValRep sh w d m v X ∧ X.Nodup ∧ (∀ b ∈ X, (b ∈ G0 ∨ w0.heap.size ≤ b) ∧ b < w.heap.size ∧ ¬ sh b) ∧
      ∀ (Lb L X2 : List Nat) (w' : World) (sh' : Nat → Prop) (y2 : A) (d2 : Dy) (m2 : Md), (∀ b ∈ Lb, b ∈ X) → Back sh w sh' w' Lb L → evA ρ y2 = some d2 → ValRep sh' w' d2 m2 v X2 → X2.Nodup → (∀ b ∈ X2, b ∈ L ∨ (b ∈ X ∧ b ∉ Lb)) →
        ∃ F3, InvG sh0 w0 G0 ρ ((σ.kill (0, i)).putS (i, .at y2 m2)) a w' sh' F3 β ∧ Lent w Lb L F3 := by
  obtain ⟨v, F', X, d, hv, hI, e1, e2, tk⟩ := h.takeSlot hs
  refine ⟨v, X, d, hv, e1, e2, tk.free.nd, tk.free.own, fun Lb L X2 w' sh' y2 d2 m2 hX hb e3 e4 hn h2 => ?_⟩
  have hc := hI.came tk.free hX hb
  have hf := Free.came hI tk.free hX hb hn h2
  have hlt : i < (σ.kill (0, i)).slots.length := by simpa [Sg.kill, mapR_eq] using (List.getElem?_eq_some_iff.1 hs).1
  have hdok : DstOk0 ((σ.kill (0, i)).putS (i, .undef)) i := by
    refine ⟨by simpa [Sg.putS, setR_eq] using hlt, fun y hy => ?_⟩
    simp only [Sg.putS, setR_eq] at hy
    rw [List.getElem?_set_self hlt] at hy
    simp only [Option.some.injEq] at hy
    subst hy; rfl
  have hput := hc.put_same (d := i) (s := .at y2 m2) (v := v) (X := X2) hdok hv ⟨d2, e3, e4⟩ (by simp [roots]) trivial hf.nd hf.own (fun b hm k j _ => hf.out b hm k j)
  rw [act_put_same hv] at hput
  have hσ : { (σ.kill (0, i)).putS (i, .undef) with slots := setR ((σ.kill (0, i)).putS (i, .undef)).slots i (.at y2 m2) } = (σ.kill (0, i)).putS (i, .at y2 m2) := by
    simp [Sg.putS, setR_eq]
  rw [hσ] at hput
  refine ⟨_, hput, fun k j b hm => ?_⟩
  unfold setF at hm
  split at hm
  · rcases h2 b hm with h1 | ⟨h1, h3⟩
    · exact .inl h1
    · exact .inr ⟨(tk.free.own b h1).2.1, h3⟩
  · exact .inr ⟨(hI.own k j b hm).2.1, fun hl => tk.free.out b (hX b hl) k j hm⟩

/-- A box's cells are named anew; memory is as it was; what they own may be another's no more. -/
theorem InvG.reset (h : InvG sh0 w0 G0 ρ σ a w sh F β) {r : Nat} {b b' : List Cell} {c : Array Value} {ty : TypeId} {F' Y : List Nat} (hna : ∀ (i : Nat) (s : SV), σ.slots[i]? = some s → roots s ≠ some (true, r))
    (hb : σ.boxes[r]? = some (some b)) (k1 : w.heap[β r]? = some (.cells c ty (0, 0))) (k2 : F true r = β r :: F') (hY : RepL (one (CellRep sh w ρ)) b' c.toList Y) (hn : (β r :: Y).Nodup)
    (hYo : ∀ z ∈ Y, (z ∈ G0 ∨ w0.heap.size ≤ z) ∧ z < w.heap.size ∧ ¬ sh z) (hYd : ∀ z ∈ Y, ∀ k j, ¬(k = true ∧ j = r) → z ∉ F k j) :
    InvG sh0 w0 G0 ρ (σ.putB (r, some b')) a w sh (setF F true r (β r :: Y)) β := by
  have hmem : ∀ z ∈ β r :: F', z ∈ F true r := fun z hz => k2 ▸ hz
  have hfor := h.forgetBox (r := r) hna
  have hfree : ∀ z ∈ β r :: F', ∀ k j, z ∉ setF F true r [] k j := by
    intro z hz k j
    unfold setF
    split
    · simp
    · rename_i hne
      exact h.disj true r k j (fun e => hne ⟨(congrArg Prod.fst e).symm, (congrArg Prod.snd e).symm⟩) z (hmem z hz)
  have hbox := hfor.setbox (r := r) (g := β r) (cells := b') (vs := c.toList) (ty := ty) (X := Y)
    (by simpa [Sg.putB, setR_eq] using (List.getElem?_eq_some_iff.1 hb).1) (putB_none_get _ _) (by simpa using k1) hY
    (h.own true r (β r) (hmem _ (by simp))).2.2 (h.own true r (β r) (hmem _ (by simp))).1 (hfree _ (by simp))
    hn hYo
    (fun z hz k j => by
      unfold setF
      split
      · simp
      · rename_i hne; exact hYd z hz k j hne) (.inl rfl)
    (fun p hp => by
      obtain ⟨ty', h1⟩ := h.keepB r p hp b hb
      rw [k1] at h1
      simp only [Option.some.injEq, Obj.cells.injEq] at h1
      simpa using h1.1)
  rw [putB_putB] at hbox
  have hβ : (fun i => if i = r then β r else β i) = β := by funext i; split <;> simp_all
  rw [hβ] at hbox
  have hF : setF (setF F true r []) true r (β r :: Y) = setF F true r (β r :: Y) := by
    funext k i
    unfold setF
    split
    · rfl
    · rfl
  rw [hF] at hbox
  exact hbox

/-- A box's cell lends (a part of) what it owns. -/
theorem InvG.lendCell (h : InvG sh0 w0 G0 ρ σ a w sh F β) {r c : Nat} {b : List Cell} {y : A} {m : Md} (hb : σ.boxes[r]? = some (some b)) (hy : b[c]? = some (some (y, m))) :
    ∃ v X d, w.cell? ⟨β r, c, none⟩ = some v ∧ evA ρ y = some d ∧ d.1.isAgg = false ∧ Rep sh w d.1 m d.2 [v] X ∧ X.Nodup ∧ (∀ b ∈ X, (b ∈ G0 ∨ w0.heap.size ≤ b) ∧ b < w.heap.size ∧ ¬ sh b) ∧
      ∀ (Lb L X2 : List Nat) (w' : World) (sh' : Nat → Prop) (y2 : A) (d2 : Dy) (m2 : Md), (∀ b ∈ Lb, b ∈ X) → Back sh w sh' w' Lb L → evA ρ y2 = some d2 → d2.1.isAgg = false → Rep sh' w' d2.1 m2 d2.2 [v] X2 → X2.Nodup → (∀ b ∈ X2, b ∈ L ∨ (b ∈ X ∧ b ∉ Lb)) →
        ∃ F3, InvG sh0 w0 G0 ρ ((σ.kill (2, r)).putB (r, some (b.set c (some (y2, m2))))) a w' sh' F3 β ∧ Lent w Lb L F3 := by
  have hkill := h.kill (2, r)
  obtain ⟨ar, ty, F', k1, k2, k3⟩ := hkill.box r b hb
  obtain ⟨v, A, X, B, e1, rfl, ⟨d, e2, e3, e4⟩, e5⟩ := RepL.pick (y := (none : Cell)) (fun _ => rfl) k3 hy
  obtain ⟨F1, hI, tk, f0⟩ := hkill.takeCells killed2 hb k1 k2 e5
  have har : ar[c]? = some v := by simpa using e1
  refine ⟨v, X, d, by simp [World.cell?, k1, har], e2, e3, e4, tk.free.nd, tk.free.own, fun Lb L X2 w' sh' y2 d2 m2 hX hbk g1 g2 g3 hn h2 => ?_⟩
  have hc := hI.came tk.free hX hbk
  have hf := Free.came hI tk.free hX hbk hn h2
  have hb2 : ((σ.kill (2, r)).putB (r, some (b.set c none))).boxes[r]? = some (some (b.set c none)) := by
    simp only [Sg.putB, setR_eq]
    rw [List.getElem?_set_self (by simpa [Sg.kill] using (List.getElem?_eq_some_iff.1 hb).1)]
  obtain ⟨ar2, ty2, F2, q1, q2, q3⟩ := hc.box r _ hb2
  have hβ : w'.heap[β r]? = w.heap[β r]? := by
    have hm : β r ∈ F1 true r := by rw [f0]; simp
    exact hbk.ext.block _ (hI.own true r _ hm).2.1 (fun hl => tk.free.out _ (hX _ hl) true r hm)
  rw [hβ, k1] at q1
  simp only [Option.some.injEq, Obj.cells.injEq] at q1
  obtain ⟨rfl, rfl, _⟩ := q1
  have hlt : c < b.length := (List.getElem?_eq_some_iff.1 hy).1
  obtain ⟨u, A', X', B', s1, rfl, s3, s4⟩ := RepL.swap (i := c) (x := none) q3 (by rw [List.getElem?_set_self hlt])
  have hX' : X' = [] := s3
  subst hX'
  obtain rfl := some_eq' s1 e1
  have hcells := s4 (some (y2, m2)) X2 ⟨d2, g1, g2, g3⟩
  rw [List.set_set] at hcells
  have hin : ∀ z, z ∈ A' ++ B' → z ∈ F1 true r := fun z hz => by
    rw [q2]
    refine List.mem_cons_of_mem _ ?_
    simpa using hz
  have hnd := hc.nodup true r
  rw [q2] at hnd
  have hnd' := List.nodup_cons.1 hnd
  have hmemY : ∀ z, z ∈ A' ++ (X2 ++ B') → z ∈ X2 ∨ z ∈ A' ++ B' := by
    intro z hz
    simp only [List.mem_append] at hz ⊢
    rcases hz with h1 | h1 | h1
    · exact .inr (.inl h1)
    · exact .inl h1
    · exact .inr (.inr h1)
  have hYn : (β r :: (A' ++ (X2 ++ B'))).Nodup := by
    have hAB : (A' ++ B').Nodup := by simpa using hnd'.2
    have h4 := List.nodup_append.1 hAB
    refine List.nodup_cons.2 ⟨fun hz => ?_, List.nodup_append.2 ⟨h4.1, List.nodup_append.2 ⟨hn, h4.2.1, fun x hx y hy e => ?_⟩, fun x hx y hy e => ?_⟩⟩
    · rcases hmemY _ hz with hz | hz
      · exact hf.out _ hz true r (by rw [q2]; simp)
      · exact hnd'.1 (by simpa using hz)
    · subst e; exact hf.out x hx true r (hin x (List.mem_append_right _ hy))
    · subst e
      rcases List.mem_append.1 hy with hy | hy
      · exact hf.out x hy true r (hin x (List.mem_append_left _ hx))
      · exact h4.2.2 x hx x hy rfl
  have hre := hc.reset killed2 hb2 (by rw [hβ]; exact k1) q2 hcells hYn (fun z hz => by
      rcases hmemY z hz with hz | hz
      · exact hf.own z hz
      · exact hc.own true r z (hin z hz)) (fun z hz k j hkj => by
      rcases hmemY z hz with hz | hz
      · exact hf.out z hz k j
      · exact hc.disj true r k j (fun e => hkj ⟨(congrArg Prod.fst e).symm, (congrArg Prod.snd e).symm⟩) z (hin z hz))
  rw [putB_putB] at hre
  refine ⟨_, hre, fun k j z hz => ?_⟩
  have hold : ∀ k j, z ∈ F1 k j → z ∈ L ∨ (z < w.heap.size ∧ z ∉ Lb) := fun k j hm => .inr ⟨(hI.own k j z hm).2.1, fun hl => tk.free.out z (hX z hl) k j hm⟩
  unfold setF at hz
  split at hz
  · rcases List.mem_cons.1 hz with rfl | hz
    · exact hold true r (by rw [q2]; simp)
    · rcases hmemY z hz with hz | hz
      · rcases h2 z hz with h1 | ⟨h1, h3⟩
        · exact .inl h1
        · exact .inr ⟨(tk.free.own z h1).2.1, h3⟩
      · exact hold true r (hin z hz)
  · exact hold k j hz

/-- Some of a box's cells lend (a part of) what they own. -/
theorem InvG.lendCells (h : InvG sh0 w0 G0 ρ σ a w sh F β) {r off n : Nat} {b : List Cell} (hb : σ.boxes[r]? = some (some b)) (hle : off + n ≤ b.length) :
    ∃ ar ty X, w.heap[β r]? = some (.cells ar ty (0, 0)) ∧ RepL (one (CellRep sh w ρ)) ((b.drop off).take n) ((ar.toList.drop off).take n) X ∧ X.Nodup ∧ (∀ b ∈ X, (b ∈ G0 ∨ w0.heap.size ≤ b) ∧ b < w.heap.size ∧ ¬ sh b) ∧
      ∀ (Lb L X2 : List Nat) (w' : World) (sh' : Nat → Prop) (ys : List Cell), (∀ b ∈ Lb, b ∈ X) → Back sh w sh' w' Lb L → RepL (one (CellRep sh' w' ρ)) ys ((ar.toList.drop off).take n) X2 → X2.Nodup → (∀ b ∈ X2, b ∈ L ∨ (b ∈ X ∧ b ∉ Lb)) →
        ∃ F3, InvG sh0 w0 G0 ρ ((σ.kill (2, r)).putB (r, some (b.take off ++ ys ++ b.drop (off + n)))) a w' sh' F3 β ∧ Lent w Lb L F3 := by
  have hkill := h.kill (2, r)
  obtain ⟨ar, ty, F', k1, k2, k3⟩ := hkill.box r b hb
  obtain ⟨A, X, B, rfl, q1, q2⟩ := RepL.range off n k3
  have hbl : b.length = ar.toList.length := (RepL.one_len k3).symm
  have hle' : off + n ≤ ar.toList.length := by rw [← hbl]; exact hle
  have hlen : ((ar.toList.drop off).take n).length = n := by rw [List.length_take, List.length_drop]; omega
  have hnone := q2 (List.replicate n none) [] (by have := nones_rep (y := 0) (sh := sh) (w := w) (ρ := ρ) (vs := (ar.toList.drop off).take n); rw [hlen] at this; exact this)
  obtain ⟨F1, hI, tk, f0⟩ := hkill.takeCells killed2 hb k1 k2 hnone
  refine ⟨ar, ty, X, k1, q1, tk.free.nd, tk.free.own, fun Lb L X2 w' sh' ys hX hbk hys hn h2 => ?_⟩
  have hc := hI.came tk.free hX hbk
  have hf := Free.came hI tk.free hX hbk hn h2
  have hb2 : ((σ.kill (2, r)).putB (r, some (noneR off n b))).boxes[r]? = some (some (noneR off n b)) := by
    simp only [Sg.putB, setR_eq]
    rw [List.getElem?_set_self (by simpa [Sg.kill] using (List.getElem?_eq_some_iff.1 hb).1)]
  obtain ⟨ar2, ty2, F2, s1, s2, s3⟩ := hc.box r _ hb2
  have hβ : w'.heap[β r]? = w.heap[β r]? := by
    have hm : β r ∈ F1 true r := by rw [f0]; simp
    exact hbk.ext.block _ (hI.own true r _ hm).2.1 (fun hl => tk.free.out _ (hX _ hl) true r hm)
  rw [hβ, k1] at s1
  simp only [Option.some.injEq, Obj.cells.injEq] at s1
  obtain ⟨rfl, rfl, _⟩ := s1
  obtain ⟨A', X', B', rfl, t1, t2⟩ := RepL.range off n s3
  have hmid : ((noneR off n b).drop off).take n = List.replicate n none := by
    unfold noneR
    rw [List.append_assoc, List.drop_append_of_le_length (by simp; omega)]
    rw [List.drop_of_length_le (by simp; omega), List.nil_append, List.take_append_of_le_length (by simp), List.take_of_length_le (by simp)]
  have hX' : X' = [] := by
    rw [hmid] at t1
    exact RepL.empty' t1
  subst hX'
  have hcells := t2 _ _ hys
  have hpre : (noneR off n b).take off = b.take off := by
    unfold noneR
    rw [List.append_assoc, List.take_append_of_le_length (by simp; omega), List.take_of_length_le (by simp; omega)]
  have hsuf : (noneR off n b).drop (off + n) = b.drop (off + n) := by
    unfold noneR
    rw [List.drop_append, List.drop_of_length_le (by simp; omega), List.nil_append]
    simp
    omega
  rw [hpre, hsuf] at hcells
  have hin : ∀ z, z ∈ A' ++ B' → z ∈ F1 true r := fun z hz => by
    rw [s2]
    refine List.mem_cons_of_mem _ ?_
    simpa using hz
  have hnd := hc.nodup true r
  rw [s2] at hnd
  have hnd' := List.nodup_cons.1 hnd
  have hmemY : ∀ z, z ∈ A' ++ (X2 ++ B') → z ∈ X2 ∨ z ∈ A' ++ B' := by
    intro z hz
    simp only [List.mem_append] at hz ⊢
    rcases hz with h1 | h1 | h1
    · exact .inr (.inl h1)
    · exact .inl h1
    · exact .inr (.inr h1)
  have hYn : (β r :: (A' ++ (X2 ++ B'))).Nodup := by
    have hAB : (A' ++ B').Nodup := by simpa using hnd'.2
    have h4 := List.nodup_append.1 hAB
    refine List.nodup_cons.2 ⟨fun hz => ?_, List.nodup_append.2 ⟨h4.1, List.nodup_append.2 ⟨hn, h4.2.1, fun x hx y hy e => ?_⟩, fun x hx y hy e => ?_⟩⟩
    · rcases hmemY _ hz with hz | hz
      · exact hf.out _ hz true r (by rw [s2]; simp)
      · exact hnd'.1 (by simpa using hz)
    · subst e; exact hf.out x hx true r (hin x (List.mem_append_right _ hy))
    · subst e
      rcases List.mem_append.1 hy with hy | hy
      · exact hf.out x hy true r (hin x (List.mem_append_left _ hx))
      · exact h4.2.2 x hx x hy rfl
  have hre := hc.reset killed2 hb2 (by rw [hβ]; exact k1) s2 hcells hYn (fun z hz => by
      rcases hmemY z hz with hz | hz
      · exact hf.own z hz
      · exact hc.own true r z (hin z hz)) (fun z hz k j hkj => by
      rcases hmemY z hz with hz | hz
      · exact hf.out z hz k j
      · exact hc.disj true r k j (fun e => hkj ⟨(congrArg Prod.fst e).symm, (congrArg Prod.snd e).symm⟩) z (hin z hz))
  rw [putB_putB] at hre
  refine ⟨_, hre, fun k j z hz => ?_⟩
  have hold : ∀ k j, z ∈ F1 k j → z ∈ L ∨ (z < w.heap.size ∧ z ∉ Lb) := fun k j hm => .inr ⟨(hI.own k j z hm).2.1, fun hl => tk.free.out z (hX z hl) k j hm⟩
  unfold setF at hz
  split at hz
  · rcases List.mem_cons.1 hz with rfl | hz
    · exact hold true r (by rw [s2]; simp)
    · rcases hmemY z hz with hz | hz
      · rcases h2 z hz with h1 | ⟨h1, h3⟩
        · exact .inl h1
        · exact .inr ⟨(tk.free.own z h1).2.1, h3⟩
      · exact hold true r (hin z hz)
  · exact hold k j hz

theorem RepL.relend {α : Type} {R : α → List Value → List Nat → Prop} {n : Nat} (hn : ∀ x vs F, R x vs F → vs.length = n) :
    ∀ {xs : List α} {vs : List Value} {F : List Nat} {i : Nat} {y : α}, RepL R xs vs F → xs[i]? = some y → ∃ A G B, F = A ++ (G ++ B) ∧ R y ((vs.drop (n * i)).take n) G ∧
      ∀ (R' : α → List Value → List Nat → Prop), (∀ x us K, (∀ b ∈ K, b ∈ A ∨ b ∈ B) → R x us K → R' x us K) → ∀ z Y, R' z ((vs.drop (n * i)).take n) Y → RepL R' (xs.set i z) vs (A ++ (Y ++ B))
  | [], _, _, _, _, _, h => by simp at h
  | x :: xs, vs, F, 0, y, h, hi => by
    obtain ⟨v1, v2, F1, F2, rfl, rfl, h1, h2⟩ := h
    have hl := hn _ _ _ h1
    simp at hi
    subst hi
    have hcut : ((v1 ++ v2).drop (n * 0)).take n = v1 := by
      rw [Nat.mul_zero, List.drop_zero, List.take_append_of_le_length (by omega), List.take_of_length_le (by omega)]
    rw [hcut]
    exact ⟨[], F1, F2, rfl, h1, fun R' hR z Y hz => ⟨v1, v2, Y, F2, rfl, rfl, hz, RepL.imp h2 (fun x us K hK hx => hR x us K (fun b hb => .inr (hK b hb)) hx)⟩⟩
  | x :: xs, vs, F, i + 1, y, h, hi => by
    obtain ⟨v1, v2, F1, F2, rfl, rfl, h1, h2⟩ := h
    have hl := hn _ _ _ h1
    simp at hi
    obtain ⟨A, G, B, rfl, k1, k2⟩ := RepL.relend hn h2 hi
    have hcut : ((v1 ++ v2).drop (n * (i + 1))).take n = (v2.drop (n * i)).take n := by
      rw [show n * (i + 1) = v1.length + n * i by rw [hl, Nat.mul_add, Nat.mul_one, Nat.add_comm], List.drop_length_add_append]
    rw [hcut]
    refine ⟨F1 ++ A, G, B, by simp, k1, fun R' hR z Y hz => ⟨v1, v2, F1, A ++ (Y ++ B), rfl, by simp, hR _ _ _ (fun b hb => .inl (List.mem_append_left _ hb)) h1, k2 R' (fun x us K hK hx => hR x us K (fun b hb => (hK b hb).imp (List.mem_append_right _) id) hx) z Y hz⟩⟩

/-- A cell of a struct is lent. -/
theorem cells_lend : ∀ {τ : Ty} {m : Md} {x : D τ} {vs : List Value} {G : List Nat} {off : Nat} {d0 : Dy}, Rep sh w τ m x vs G → cellAt τ x off = some d0 →
    ∃ A K B u, G = A ++ (K ++ B) ∧ vs[off]? = some u ∧ AtomRep sh w d0 (m.cell off) u K ∧ ∀ (sh' : Nat → Prop) (w' : World), (∀ b, sh b → sh' b ∧ w'.heap[b]? = w.heap[b]?) → (∀ b, b ∈ A ∨ b ∈ B → w'.heap[b]? = w.heap[b]?) →
      ∀ (d' : Dy) (z : D τ) (Y : List Nat), AtomRep sh' w' d' (m.cell off) u Y → setCells τ x off [d'] = some z → Rep sh' w' τ m z vs (A ++ (Y ++ B))
  | .pair α τ, m, x, vs, G, 0, d0, h, hc => by
    obtain ⟨v1, v2, F1, F2, rfl, rfl, h1, h2⟩ := h
    unfold cellAt at hc
    split at hc
    · cases hc
    rename_i hag
    have hag : α.isAgg = false := by simpa using hag
    simp only [Option.some.injEq] at hc
    subst hc
    obtain ⟨u, rfl⟩ := h1.single hag
    refine ⟨[], F1, F2, u, rfl, rfl, ⟨hag, h1⟩, fun sh' w' hs hAB d' z Y hd hz => ?_⟩
    simp only [setCells] at hz
    cases hd' : d'.as α with
    | none => rw [hd'] at hz; cases hz
    | some y => ?_
    have hs0 : setCells τ x.2 0 [] = some x.2 := by cases τ <;> rfl
    rw [hd'] at hz
    simp only [Option.some.injEq] at hz
    subst hz
    have := as_inv hd'
    subst this
    exact ⟨[u], v2, Y, F2, rfl, rfl, hd.2, Rep.frame hs h2 (fun b hb => hAB b (.inr hb))⟩
  | .pair α τ, m, x, vs, G, off + 1, d0, h, hc => by
    obtain ⟨v1, v2, F1, F2, rfl, rfl, h1, h2⟩ := h
    unfold cellAt at hc
    split at hc
    · cases hc
    rename_i hag
    have hag : α.isAgg = false := by simpa using hag
    obtain ⟨u0, rfl⟩ := h1.single hag
    obtain ⟨A, K, B, u, rfl, e1, e2, e3⟩ := cells_lend h2 hc
    refine ⟨F1 ++ A, K, B, u, by simp, by simpa using e1, e2, fun sh' w' hs hAB d' z Y hd hz => ?_⟩
    simp only [setCells, hag, Bool.false_eq_true, if_false] at hz
    obtain ⟨r, hr, rfl⟩ := Option.map_eq_some_iff.1 hz
    exact ⟨[u0], v2, F1, A ++ (Y ++ B), rfl, by simp, Rep.frame hs h1 (fun b hb => hAB b (.inl (List.mem_append_left _ hb))),
      e3 sh' w' hs (fun b hb => hAB b (hb.imp (List.mem_append_right _) id)) d' r Y hd hr⟩
  | .unit, _, _, _, _, _, _, _, hc => by simp [cellAt] at hc
  | .int _, _, _, _, _, _, _, _, hc => by simp [cellAt] at hc
  | .bool, _, _, _, _, _, _, _, hc => by simp [cellAt] at hc
  | .str, _, _, _, _, _, _, _, hc => by simp [cellAt] at hc
  | .sl _, _, _, _, _, _, _, _, hc => by simp [cellAt] at hc

/-- A cell of an element is lent. -/
theorem elem_lend {τ : Ty} {m : Md} {x : D τ} {vs : List Value} {G : List Nat} {off : Nat} {d0 : Dy} (h : Rep sh w τ m x vs G) (hc : Dy.cell ⟨τ, x⟩ off = some d0) :
    ∃ A K B u, G = A ++ (K ++ B) ∧ vs[off]? = some u ∧ AtomRep sh w d0 (m.cell off) u K ∧ ∀ (sh' : Nat → Prop) (w' : World), (∀ b, sh b → sh' b ∧ w'.heap[b]? = w.heap[b]?) → (∀ b, b ∈ A ∨ b ∈ B → w'.heap[b]? = w.heap[b]?) →
      ∀ (d' : Dy) (z : D τ) (Y : List Nat), AtomRep sh' w' d' (m.cell off) u Y → setElem τ x off 1 d' = some z → Rep sh' w' τ m z vs (A ++ (Y ++ B)) := by
  unfold Dy.cell at hc
  dsimp only at hc
  cases ha : τ.isAgg with
  | true =>
    rw [if_pos ha] at hc
    obtain ⟨A, K, B, u, e1, e2, e3, e4⟩ := cells_lend h hc
    refine ⟨A, K, B, u, e1, e2, e3, fun sh' w' hs hAB d' z Y hd hz => e4 sh' w' hs hAB d' z Y hd ?_⟩
    unfold setElem at hz
    rw [if_pos ha, if_neg (by simp [hd.1])] at hz
    exact hz
  | false =>
    rw [if_neg (by simp [ha])] at hc
    split at hc
    · rename_i h0
      subst h0
      simp only [Option.some.injEq] at hc
      subst hc
      obtain ⟨u, rfl⟩ := h.single ha
      have hconv : ∀ {sh' : Nat → Prop} {w' : World} {z : D τ} {Y : List Nat}, (Rep sh' w' τ m.l z [u] Y → Rep sh' w' τ m z [u] Y) ∧ (Rep sh w τ m x [u] G → Rep sh w τ m.l x [u] G) := by
        intro sh' w' z Y
        cases τ with
        | sl e => cases m with
          | pair _ _ => exact h.elim
          | _ => exact ⟨id, id⟩
        | pair _ _ => simp [Ty.isAgg] at ha
        | _ => exact ⟨id, id⟩
      refine ⟨[], G, [], u, by simp, rfl, ⟨ha, (hconv (sh' := sh) (w' := w) (z := x) (Y := G)).2 h⟩, fun sh' w' hs hAB d' z Y hd hz => ?_⟩
      unfold setElem at hz
      rw [if_neg (by simp [ha]), if_pos (by simp)] at hz
      have := as_inv hz
      subst this
      simpa using hconv.1 hd.2
    · cases hc

/-- A cell of an owned row's element is lent. -/
theorem own_lend {e : Ty} {xs : D (.sl e)} {m : Md} {v : Value} (h : ValRep sh w ⟨.sl e, xs⟩ (.own m) v X) (hXn : X.Nodup) {i : Nat} {y : D e} (hi : xs[i]? = some y) {off : Nat} {d0 : Dy} (hc : Dy.cell ⟨e, y⟩ off = some d0) :
    ∃ g cap ar ty fz u K, v = .slice (some ⟨g, 0, none⟩) xs.length cap ∧ w.heap[g]? = some (.cells ar ty fz) ∧ ar[e.n * i + off]? = some u ∧ AtomRep sh w d0 (m.cell off) u K ∧ (∀ b ∈ K, b ∈ X) ∧ K.Nodup ∧
      ∀ (sh' : Nat → Prop) (w' : World) (d' : Dy) (z : D e) (Y : List Nat), (∀ b, sh b → sh' b ∧ w'.heap[b]? = w.heap[b]?) → (∀ b ∈ X, b ∉ K → w'.heap[b]? = w.heap[b]?) → AtomRep sh' w' d' (m.cell off) u Y → setElem e y off 1 d' = some z →
        Y.Nodup → (∀ b ∈ Y, b ∈ X → b ∈ K) → ∃ X2, ValRep sh' w' ⟨.sl e, List.set xs i z⟩ (.own m) v X2 ∧ X2.Nodup ∧ ∀ b ∈ X2, b ∈ Y ∨ (b ∈ X ∧ b ∉ K) := by
  obtain ⟨vs, rfl, ad, cap, rfl, hcap, hr⟩ := h
  have hlt : i < List.length xs := (List.getElem?_eq_some_iff.1 hi).1
  rcases hr with ⟨rfl, _⟩ | ⟨g, ar, ty, fz, F', rfl, rfl, hw, hsz, hz, hr⟩
  · simp at hlt
  have hr : RepL (fun x vs F => Rep sh w e m x vs F) xs (ar.toList.take (e.n * List.length xs)) F' := hr
  obtain ⟨A, G, B, rfl, k1, k2⟩ := RepL.relend (fun x vs F h => Rep.len h) hr hi
  obtain ⟨A2, K, B2, u, rfl, e1, e2, e3⟩ := elem_lend k1 hc
  have hnd := List.nodup_cons.1 hXn
  have hl := (List.getElem?_eq_some_iff.1 e1).1
  have hu : ar[e.n * i + off]? = some u := by
    rw [List.getElem?_take] at e1
    split at e1
    · rw [List.getElem?_drop, List.getElem?_take] at e1
      split at e1
      · simpa using e1
      · cases e1
    · cases e1
  have hKn : K.Nodup := by
    have h1 := (List.nodup_append.1 (List.nodup_append.1 hnd.2).2.1).1
    exact (List.nodup_append.1 (List.nodup_append.1 h1).2.1).1
  refine ⟨g, cap, ar, ty, fz, u, K, rfl, hw, hu, e2, fun b hb => by simp [hb], hKn, fun sh' w' d' z Y hs hX hd hz' hYn hYX => ?_⟩
  have hA : ∀ b, b ∈ A ∨ b ∈ B ∨ b ∈ A2 ∨ b ∈ B2 → b ∈ g :: (A ++ ((A2 ++ (K ++ B2)) ++ B)) ∧ b ∉ K := by
    intro b hb
    refine ⟨by simp only [List.mem_cons, List.mem_append]; rcases hb with h | h | h | h <;> simp [h], fun hk => ?_⟩
    have h2 := hnd.2
    simp only [List.nodup_append, List.mem_append] at h2
    grind
  have hg : g ∉ K := fun hk => hnd.1 (by simp [hk])
  have hnew := e3 sh' w' hs (fun b hb => hX b (hA b (by rcases hb with h | h <;> simp [h])).1 (hA b (by rcases hb with h | h <;> simp [h])).2) d' z Y hd hz'
  have hrow := k2 (fun x vs F => Rep sh' w' e m x vs F) (fun x us L hL hx => Rep.frame hs hx (fun b hb => hX b (hA b (by rcases hL b hb with h | h <;> simp [h])).1 (hA b (by rcases hL b hb with h | h <;> simp [h])).2)) z _ hnew
  refine ⟨g :: (A ++ ((A2 ++ (Y ++ B2)) ++ B)), ⟨_, rfl, some ⟨g, 0, none⟩, cap, by simp, by simpa using hcap, .inr ⟨g, ar, ty, fz, _, rfl, rfl, (hX g (by simp) hg).trans hw, hsz, hz, by simpa using hrow⟩⟩, ?_, fun b hb => ?_⟩
  · have h2 := hnd.2
    have h1 := hnd.1
    have hYX' : ∀ b ∈ Y, b ∈ g :: (A ++ ((A2 ++ (K ++ B2)) ++ B)) → b ∈ K := hYX
    simp only [List.nodup_cons, List.nodup_append, List.mem_append, List.mem_cons] at h1 h2 hYX' ⊢
    grind
  · simp only [List.mem_cons, List.mem_append] at hb
    rcases hb with rfl | hb | (hb | hb | hb) | hb
    · exact .inr ⟨by simp, hg⟩
    · exact .inr (hA b (.inl hb))
    · exact .inr (hA b (.inr (.inr (.inl hb))))
    · exact .inl hb
    · exact .inr (hA b (.inr (.inr (.inr hb))))
    · exact .inr (hA b (.inr (.inl hb)))

/-- A box lends itself. -/
theorem InvG.lendBox (h : InvG sh0 w0 G0 ρ σ a w sh F β) {r : Nat} {b : List Cell} (hb : σ.boxes[r]? = some (some b)) (hkb : ∀ p, (r, p) ∉ σ.kb) :
    ∃ c ty K, w.heap[β r]? = some (.cells c ty (0, 0)) ∧ RepL (one (CellRep sh w ρ)) b c.toList K ∧ (β r :: K).Nodup ∧ (∀ z ∈ β r :: K, (z ∈ G0 ∨ w0.heap.size ≤ z) ∧ z < w.heap.size ∧ ¬ sh z) ∧
      ∀ (L' : List Nat) (w' : World) (sh' : Nat → Prop) (b' : List Cell) (c' : Array Value) (ty' : TypeId), Back sh w sh' w' (β r :: K) (β r :: L') → w'.heap[β r]? = some (.cells c' ty' (0, 0)) → RepL (one (CellRep sh' w' ρ)) b' c'.toList L' →
        ∃ F3, InvG sh0 w0 G0 ρ ((σ.kill (2, r)).putB (r, some b')) a w' sh' F3 β ∧ Lent w (β r :: K) (β r :: L') F3 := by
  have hkill := h.kill (2, r)
  obtain ⟨c, ty, K, k1, k2, k3⟩ := hkill.box r b hb
  have hnd := h.nodup true r
  have hown := h.own true r
  rw [k2] at hnd hown
  refine ⟨c, ty, K, k1, k3, hnd, hown, fun L' w' sh' b' c' ty' hbk e1 e2 => ?_⟩
  have hfor := hkill.forgetBox (r := r) killed2
  have hfree : Free G0 w0 w sh (setF F true r []) (β r :: K) := ⟨hnd, hown, fun z hz k j => by
    unfold setF
    split
    · simp
    · rename_i hne
      exact h.disj true r k j (fun e => hne ⟨(congrArg Prod.fst e).symm, (congrArg Prod.snd e).symm⟩) z (by rw [k2]; exact hz)⟩
  have hc := hfor.came hfree (fun _ h => h) hbk
  have hf := Free.came (X2 := β r :: L') hfor hfree (fun _ h => h) hbk hbk.nd (fun z hz => .inl hz)
  have hset := hc.setbox (r := r) (g := β r) (cells := b') (vs := c'.toList) (ty := ty') (X := L')
    (by simpa [Sg.putB, setR_eq, Sg.kill] using (List.getElem?_eq_some_iff.1 hb).1) (putB_none_get _ _) (by simpa using e1) e2
    (hf.own _ (by simp)).2.2 (hf.own _ (by simp)).1 (hf.out _ (by simp)) hbk.nd (fun z hz => hf.own z (List.mem_cons_of_mem _ hz)) (fun z hz => hf.out z (List.mem_cons_of_mem _ hz)) (.inl rfl)
    (fun p hp => absurd hp (hkb p))
  rw [putB_putB] at hset
  have hβ : (fun i => if i = r then β r else β i) = β := by funext i; split <;> simp_all
  rw [hβ] at hset
  refine ⟨_, hset, fun k j z hz => ?_⟩
  unfold setF at hz
  split at hz
  · exact .inl hz
  · rename_i hne
    exact .inr ⟨(h.own k j z hz).2.1, fun hm => h.disj true r k j (fun e => hne ⟨(congrArg Prod.fst e).symm, (congrArg Prod.snd e).symm⟩) z (by rw [k2]; exact hm) hz⟩
end
end Go.Vm
