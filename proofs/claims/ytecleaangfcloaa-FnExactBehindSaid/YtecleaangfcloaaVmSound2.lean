/- The code, run on names, is the code: where ways meet, loops, a whole body. Lemmas alone, no statement. -/
import Derived.Test.YtecleaangfcloaaVmDraw2
namespace Go.Vm
set_option linter.unusedVariables false
set_option linter.unusedSimpArgs false
open Go.RowKit

section
variable {P : Program} {C : Nat → Option Sig} {Fn : Fns} {N : Nat} {H : Hints} {sh0 : Nat → Prop} {w0 : World} {G0 : Frm} {ρ δ : List Dy} {σ τ : Sg} {a : Act} {w w' : World}
  {sh sh' : Nat → Prop} {F : Bool → Nat → List Nat} {β : Nat → Nat} {Q : Exit → Act → World → Prop}

theorem under_ev {n : Nat} : ∀ {x : A}, x.under n = true → n ≤ ρ.length → evA (ρ.take n ++ δ) x = evA ρ x
  | .var i, h, hn => by
    have hi : i < n := by simpa [A.under] using h
    simp only [evA]
    rw [List.getElem?_append_left (by simp; omega), List.getElem?_take, if_pos hi]
  | .fld a c, h, hn => by
    simp only [evA]
    rw [under_ev (x := a) h hn]
  | .int _ _, _, _ => rfl
  | .bool _, _, _ => rfl
  | .str _, _, _ => rfl
  | .nil _, _, _ => rfl

theorem under_caps {n : Nat} : ∀ {cs : List Cp} {us : List Value}, (∀ c ∈ cs, c.under n = true) → n ≤ ρ.length → CapsRep sh w ρ β cs us → CapsRep sh w (ρ.take n ++ δ) β cs us
  | [], us, _, _, h => h
  | c :: cs, us, hs, hn, h => by
    obtain ⟨u, us', rfl, h1, h2⟩ := h
    refine ⟨u, us', rfl, ?_, under_caps (fun c hc => hs c (by simp [hc])) hn h2⟩
    cases c with
    | ptr r => exact h1
    | psh x => obtain ⟨d, e1, e2⟩ := h1; exact ⟨d, by rw [under_ev (hs (.psh x) (by simp)) hn]; exact e1, e2⟩

theorem under_sv {n : Nat} {s : SV} {v : Value} {X : List Nat} (hs : s.under n = true) (hn : n ≤ ρ.length) (h : SVRep sh w ρ β a.tmps F s v X) : SVRep sh w (ρ.take n ++ δ) β a.tmps F s v X := by
  cases s with
  | «at» x m => obtain ⟨d, h1, h2⟩ := h; exact ⟨d, by rw [under_ev hs hn]; exact h1, h2⟩
  | psh x off =>
    obtain ⟨h0, d, b, o, c, ty, fz, h1, h2⟩ := h
    exact ⟨h0, d, b, o, c, ty, fz, by rw [under_ev hs hn]; exact h1, h2⟩
  | pel b r c m i f =>
    obtain ⟨h0, g, len, cap, k, q, h1, h2, h3⟩ := h
    exact ⟨h0, g, len, cap, k, q, h1, by rw [under_ev hs hn]; exact h2, h3⟩
  | ea x b r c m i f nn =>
    obtain ⟨h0, ⟨d, sh2, h1, h2⟩, g, len, cap, k, q, cc, ty, fz, e1, e2, e3⟩ := h
    have hs : (x.under n && i.under n) = true := hs
    simp only [Bool.and_eq_true] at hs
    exact ⟨h0, ⟨d, sh2, by rw [under_ev hs.1 hn]; exact h1, h2⟩, g, len, cap, k, q, cc, ty, fz, e1, by rw [under_ev hs.2 hn]; exact e2, e3⟩
  | tup xs =>
    obtain ⟨vs, hv, hr⟩ := h
    refine ⟨vs, hv, ?_⟩
    have hall : ∀ x ∈ xs, underO n x = true := by simpa [SV.under] using hs
    clear hv hs
    generalize vs.toList = us at hr
    revert us X
    induction xs with
    | nil => intro X us hr; exact hr
    | cons x xs ih =>
      intro X us hr
      obtain ⟨v1, v2, F1, F2, rfl, rfl, ⟨u, hu, hq⟩, hrest⟩ := hr
      refine ⟨v1, v2, F1, F2, rfl, rfl, ⟨u, hu, ?_⟩, ih (fun y hy => hall y (by simp [hy])) _ hrest⟩
      cases x with
      | none => exact hq
      | some y =>
        obtain ⟨d, h1, h2⟩ := hq
        exact ⟨d, by rw [under_ev (hall (some y) (by simp)) hn]; exact h1, h2⟩
  | fn g cs =>
    obtain ⟨h0, us, hv, hr⟩ := h
    exact ⟨h0, us, hv, under_caps (by simpa [SV.under] using hs) hn hr⟩
  | ag _ _ _ => exact h
  | tp _ _ => exact h
  | anyb ne x =>
    obtain ⟨h0, b, e, l, h1, h2, h3⟩ := h
    exact ⟨h0, b, e, l, h1, by rw [under_ev hs hn]; exact h2, h3⟩
  | undef => exact h
  | void => exact h
  | ptr _ _ => exact h
  | rf b r c ln =>
    refine ⟨h.1, h.2.1, fun z hz => ?_⟩
    subst hz
    obtain ⟨ad, len, cap, e1, e2⟩ := h.2.2 z rfl
    exact ⟨ad, len, cap, e1, by rw [under_ev hs hn]; exact e2⟩

theorem allOk_get {α : Type} {f : α → α → Bool} : ∀ {xs ys : List α}, allOk f xs ys = true → xs.length = ys.length ∧ ∀ (i : Nat) (x : α), xs[i]? = some x → ∃ y, ys[i]? = some y ∧ f x y = true
  | [], [], _ => ⟨rfl, by simp⟩
  | x :: xs, y :: ys, h => by
    simp only [allOk, Bool.and_eq_true] at h
    obtain ⟨h1, h2⟩ := allOk_get h.2
    refine ⟨by simp [h1], fun i z hz => ?_⟩
    cases i with
    | zero => simp at hz; subst hz; exact ⟨y, rfl, h.1⟩
    | succ i => simp at hz; obtain ⟨u, hu, hf⟩ := h2 i z hz; exact ⟨u, by simpa using hu, hf⟩
  | [], _ :: _, h => by simp [allOk] at h
  | _ :: _, [], h => by simp [allOk] at h

theorem evAs_get : ∀ {xs : List A} {ds : List Dy}, evAs ρ xs = some ds → ds.length = xs.length ∧ ∀ (i : Nat) (x : A), xs[i]? = some x → ∃ d, ds[i]? = some d ∧ evA ρ x = some d
  | [], ds, h => by simp [evAs] at h; subst h; exact ⟨rfl, by simp⟩
  | x :: xs, ds, h => by
    obtain ⟨d, r, h1, h2, rfl⟩ := evAs_cons h
    obtain ⟨k1, k2⟩ := evAs_get h2
    refine ⟨by simp [k1], fun i y hy => ?_⟩
    cases i with
    | zero => simp at hy; subst hy; exact ⟨d, rfl, h1⟩
    | succ i => simp at hy; obtain ⟨e, he, hev⟩ := k2 i y hy; exact ⟨e, by simpa using he, hev⟩

theorem cells_meet {n : Nat} {xs : List A} {ds : List Dy} (hev : evAs ρ xs = some ds) (hn : n ≤ ρ.length) : ∀ {b b' : List Cell} {vs : List Value} {X : List Nat}, allOk (cellOk n xs) b b' = true →
    RepL (one (CellRep sh w ρ)) b' vs X → ∃ Y, (∀ k ∈ Y, k ∈ X) ∧ (X.Nodup → Y.Nodup) ∧ RepL (one (CellRep sh w (ρ.take n ++ ds))) b vs Y
  | [], [], vs, X, _, h => ⟨[], by simp, by simp, by obtain ⟨rfl, rfl⟩ := h; exact ⟨rfl, rfl⟩⟩
  | [], _ :: _, _, _, h, _ => by simp [allOk] at h
  | _ :: _, [], _, _, h, _ => by simp [allOk] at h
  | c :: b, c' :: b', vs, X, h, hr => by
    simp only [allOk, Bool.and_eq_true] at h
    obtain ⟨v1, v2, F1, F2, rfl, rfl, ⟨u, rfl, hc⟩, hrest⟩ := hr
    obtain ⟨Y, hY, hYn, hrep⟩ := cells_meet hev hn h.2 hrest
    have hone : CellRep sh w (ρ.take n ++ ds) c u F1 ∨ CellRep sh w (ρ.take n ++ ds) c u [] := by
      have h1 := h.1
      cases c with
      | none => exact .inr rfl
      | some xm =>
        obtain ⟨x, m⟩ := xm
        cases c' with
        | none => simp [cellOk] at h1
        | some ym =>
          obtain ⟨y, m'⟩ := ym
          simp only [cellOk, Bool.and_eq_true, beq_iff_eq, Bool.or_eq_true] at h1
          obtain ⟨d, e1, e2, e3⟩ := hc
          rcases h1 with ⟨⟨rfl, rfl⟩, h3⟩ | h3
          · exact .inl ⟨d, by rw [under_ev h3 hn]; exact e1, e2, e3⟩
          · cases x with
            | var j =>
              simp only [Bool.and_eq_true, decide_eq_true_eq, beq_iff_eq] at h3
              obtain ⟨⟨h4, h5⟩, h6⟩ := h3
              obtain ⟨d', hd', hev'⟩ := (evAs_get hev).2 _ _ h5
              obtain rfl := some_eq e1 hev'
              refine .inl ⟨d, ?_, e2, coe_rep h6 e1 e3⟩
              simp only [evA]
              have hlen : (ρ.take n).length = n := by simp; omega
              rw [List.getElem?_append_right (by omega), hlen]
              exact hd'
            | _ => simp at h3
    rcases hone with hone | hone
    · refine ⟨F1 ++ Y, fun k hk => ?_, fun hn' => ?_, [u], v2, F1, Y, rfl, rfl, ⟨u, rfl, hone⟩, hrep⟩
      · rcases List.mem_append.1 hk with hk | hk
        · exact List.mem_append_left _ hk
        · exact List.mem_append_right _ (hY k hk)
      · have h4 := List.nodup_append.1 hn'
        exact List.nodup_append.2 ⟨h4.1, hYn h4.2.1, fun x hx y hy => h4.2.2 x hx y (hY y hy)⟩
    · exact ⟨Y, fun k hk => List.mem_append_right _ (hY k hk), fun hn' => hYn (List.nodup_append.1 hn').2.1, [u], v2, [], Y, rfl, rfl, ⟨u, rfl, hone⟩, hrep⟩

theorem rootB_ok {s : SV} (h : rootB σ s = true) : rootOk σ s := by
  have hs : ∀ r : Nat, (match getR σ.slots r with | some (.at _ (.own _)) => true | _ => false) = true → ownSlice σ.slots[r]? := by
    intro r hr
    rw [getR_eq] at hr
    split at hr
    · rename_i x m hx; rw [hx]; trivial
    · cases hr
  have hb : ∀ r c : Nat, (match getR σ.boxes r with
    | some (some cs) => match cs[c]? with | some (some (_, .own _)) => true | _ => false
    | _ => false) = true → ∃ cs, σ.boxes[r]? = some (some cs) ∧ ownCell cs[c]? := by
    intro r c hr
    rw [getR_eq] at hr
    split at hr
    · rename_i cs hcs
      refine ⟨cs, hcs, ?_⟩
      split at hr
      · rename_i x m hx; rw [hx]; trivial
      · cases hr
    · cases hr
  cases s with
  | rf b r c ln => cases b; exact hs r h; exact hb r c h
  | pel b r c m i f => cases b; exact hs r h; exact hb r c h
  | ea _ _ _ _ _ _ _ _ => cases h
  | tp _ _ => cases h
  | ag r _ _ =>
    have h : (match getR σ.boxes r with
      | some (some cs) => cs.any Cell.isOwn
      | _ => false) = true := h
    rw [getR_eq] at h
    split at h
    · rename_i cs hcs; exact ⟨cs, hcs, h⟩
    · cases h
  | _ => trivial

theorem getA_some {xs : List A} {i : Nat} {x : A} (h : (match xs[i]? with | some y => A.same y x | none => false) = true) : xs[i]? = some x := by
  cases hq : xs[i]? with
  | none => rw [hq] at h; cases h
  | some y => rw [hq] at h; rw [A.same_eq h]

/-- Where ways meet, what is told there is so. -/
theorem meets_sound {n : Nat} {xs : List A} {ds : List Dy} (hm : meets n xs τ σ = true) (hev : evAs ρ xs = some ds) (hn : n ≤ ρ.length) (h : Inv sh0 w0 G0 ρ σ a w) :
    Inv sh0 w0 G0 (ρ.take n ++ ds) τ a w := by
  obtain ⟨sh, F, β, h⟩ := h
  unfold meets at hm
  simp only [Bool.and_eq_true, beq_iff_eq] at hm
  obtain ⟨⟨⟨⟨⟨hs, hb⟩, hd⟩, hl⟩, hrt⟩, hkp, hkb⟩ := hm
  rw [allOkR_eq] at hs hb
  rw [allR_eq] at hrt
  obtain ⟨hsl, hs⟩ := allOk_get hs
  obtain ⟨hbl, hb⟩ := allOk_get hb
  have hlen : (ρ.take n).length = n := by simp; omega
  have hslot : ∀ (i : Nat) (s : SV), τ.slots[i]? = some s → ∃ v X, a.tmps[i]? = some v ∧ (X = [] ∨ X = F false i) ∧ SVRep sh w (ρ.take n ++ ds) β a.tmps F s v X := by
    intro i s hi
    obtain ⟨s', hs', hok⟩ := hs i s hi
    obtain ⟨v, hv, hr⟩ := h.slot i s' hs'
    unfold slotOk at hok
    simp only [Bool.or_eq_true, Bool.and_eq_true] at hok
    rcases hok with (hok | ⟨hsame, hu⟩) | hok
    · split at hok
      · exact ⟨v, [], hv, .inl rfl, rfl⟩
      · cases hok
    · obtain rfl := SV.same_eq hsame
      exact ⟨v, _, hv, .inr rfl, under_sv hu hn hr⟩
    · split at hok
      · simp only [Bool.and_eq_true, Nat.ble_eq, getR_eq] at hok
        obtain ⟨⟨hok1, hok2⟩, hok3⟩ := hok
        have hok2 := getA_some hok2
        obtain ⟨d, e1, vs, e2, e3⟩ := hr
        obtain ⟨d', hd', hev'⟩ := (evAs_get hev).2 _ _ hok2
        obtain rfl := some_eq e1 hev'
        refine ⟨v, _, hv, .inr rfl, d, ?_, vs, e2, coe_rep hok3 e1 e3⟩
        simp only [evA]
        rw [List.getElem?_append_right (by omega), hlen]
        exact hd'
      · cases hok
  have hbox : ∀ (r : Nat) (cs : List Cell), τ.boxes[r]? = some (some cs) → ∃ c ty Y, w.heap[β r]? = some (.cells c ty (0, 0)) ∧ (∀ k ∈ β r :: Y, k ∈ F true r) ∧ (β r :: Y).Nodup ∧ RepL (one (CellRep sh w (ρ.take n ++ ds))) cs c.toList Y := by
    intro r cs hr
    obtain ⟨s', hs', hok⟩ := hb r _ hr
    cases s' with
    | none => simp [boxOk] at hok
    | some cs' =>
      obtain ⟨c, ty, F', h1, h2, h3⟩ := h.box r cs' hs'
      have hnd := h.nodup true r
      rw [h2] at hnd
      have hnd' := List.nodup_cons.1 hnd
      obtain ⟨Y, hY, hYn, hrep⟩ := cells_meet hev hn hok h3
      exact ⟨c, ty, Y, h1, by rw [h2]; intro k hk; rcases List.mem_cons.1 hk with rfl | hk; exact List.mem_cons_self; exact List.mem_cons_of_mem _ (hY k hk),
        List.nodup_cons.2 ⟨fun hh => hnd'.1 (hY _ hh), hYn hnd'.2⟩, hrep⟩
  -- what each owns now
  have hFs : ∀ i, ∃ X : List Nat, (∀ k ∈ X, k ∈ F false i) ∧ X.Nodup ∧ (∀ s, τ.slots[i]? = some s → ∃ v, a.tmps[i]? = some v ∧ SVRep sh w (ρ.take n ++ ds) β a.tmps F s v X) ∧ (τ.slots[i]? = none → X = []) := by
    intro i
    cases hi : τ.slots[i]? with
    | none => exact ⟨[], by simp, by simp, by simp, fun _ => rfl⟩
    | some s =>
      obtain ⟨v, X, hv, hX, hr⟩ := hslot i s hi
      refine ⟨X, ?_, ?_, fun s' hs' => ?_, by simp⟩
      · rcases hX with rfl | rfl <;> simp
      · rcases hX with rfl | rfl
        · simp
        · exact h.nodup _ _
      · simp only [Option.some.injEq] at hs'
        subst hs'
        exact ⟨v, hv, hr⟩
  have hFb : ∀ r, ∃ X : List Nat, (∀ k ∈ X, k ∈ F true r) ∧ X.Nodup ∧ (∀ cs, τ.boxes[r]? = some (some cs) → ∃ c ty Y, w.heap[β r]? = some (.cells c ty (0, 0)) ∧ X = β r :: Y ∧ RepL (one (CellRep sh w (ρ.take n ++ ds))) cs c.toList Y) ∧
      ((∀ cs, τ.boxes[r]? ≠ some (some cs)) → X = []) := by
    intro r
    by_cases hr : ∃ cs, τ.boxes[r]? = some (some cs)
    · obtain ⟨cs, hcs⟩ := hr
      obtain ⟨c, ty, Y, h1, h2, h3, h4⟩ := hbox r cs hcs
      refine ⟨β r :: Y, h2, h3, fun cs' hcs' => ?_, fun hh => absurd hcs (hh cs)⟩
      rw [hcs] at hcs'
      simp only [Option.some.injEq] at hcs'
      subst hcs'
      exact ⟨c, ty, Y, h1, rfl, h4⟩
    · exact ⟨[], by simp, by simp, fun cs hcs => absurd ⟨cs, hcs⟩ hr, fun _ => rfl⟩
  have hFall : ∃ F' : Bool → Nat → List Nat, (∀ k i, ∀ b ∈ F' k i, b ∈ F k i) ∧ (∀ k i, (F' k i).Nodup) ∧
      (∀ i s, τ.slots[i]? = some s → ∃ v, a.tmps[i]? = some v ∧ SVRep sh w (ρ.take n ++ ds) β a.tmps F s v (F' false i)) ∧ (∀ i, τ.slots[i]? = none → F' false i = []) ∧
      (∀ r cs, τ.boxes[r]? = some (some cs) → ∃ c ty Y, w.heap[β r]? = some (.cells c ty (0, 0)) ∧ F' true r = β r :: Y ∧ RepL (one (CellRep sh w (ρ.take n ++ ds))) cs c.toList Y) ∧
      (∀ r, (∀ cs, τ.boxes[r]? ≠ some (some cs)) → F' true r = []) := by
    refine ⟨fun k i => if k then Classical.choose (hFb i) else Classical.choose (hFs i), ?_, ?_, ?_, ?_, ?_, ?_⟩
    · intro k i b hb'
      cases k
      · exact (Classical.choose_spec (hFs i)).1 b hb'
      · exact (Classical.choose_spec (hFb i)).1 b hb'
    · intro k i
      cases k
      · exact (Classical.choose_spec (hFs i)).2.1
      · exact (Classical.choose_spec (hFb i)).2.1
    · intro i s hi; exact (Classical.choose_spec (hFs i)).2.2.1 s hi
    · intro i hi; exact (Classical.choose_spec (hFs i)).2.2.2 hi
    · intro i s hi; exact (Classical.choose_spec (hFb i)).2.2.1 s hi
    · intro i hi; exact (Classical.choose_spec (hFb i)).2.2.2 hi
  obtain ⟨F', f1, f2, f3, f4, f5, f6⟩ := hFall
  have hroot : ∀ (i : Nat) (s : SV), τ.slots[i]? = some s → rootOk τ s := fun i s hi => rootB_ok (List.all_eq_true.1 hrt s (List.mem_of_getElem? hi))
  have hhdr : ∀ {b : Bool} {r c : Nat} {u : Value}, (b = true → ∃ cs, τ.boxes[r]? = some (some cs)) → HdrIs w β a.tmps F b r c u → HdrIs w β a.tmps F' b r c u := by
    intro b r c u hbx hh
    cases b with
    | false => exact hh
    | true =>
      obtain ⟨cs, hcs⟩ := hbx rfl
      obtain ⟨c', ty, Y, _, h2, _⟩ := f5 r cs hcs
      exact ⟨by rw [h2]; simp, hh.2⟩
  refine ⟨sh, F', β, h.defers, by rw [h.size, hsl], h.ext, h.sh_old, h.sh_lt, h.sh_new, fun i s hi => ?_, f4, f5, f6, f2, fun k i b hb' => h.own k i b (f1 k i b hb'),
    fun k i l j hne b hb' hb2 => h.disj k i l j hne b (f1 k i b hb') (f1 l j b hb2), fun x b hx => ?_, hroot, fun i hi => h.keep i (by rw [← hkp]; exact hi), fun r p hp cs hr => ?_⟩
  · obtain ⟨v, hv, hr⟩ := f3 i s hi
    refine ⟨v, hv, ?_⟩
    have hro := hroot i s hi
    cases s with
    | rf b r c ln =>
      refine ⟨hr.1, hhdr (fun hb' => ?_) hr.2.1, hr.2.2⟩
      subst hb'
      obtain ⟨cs, hcs, _⟩ := hro
      exact ⟨cs, hcs⟩
    | pel b r c m i f =>
      obtain ⟨h0, g, len, cap, k, q, h1, h2⟩ := hr
      refine ⟨h0, g, len, cap, k, q, hhdr (fun hb' => ?_) h1, h2⟩
      subst hb'
      obtain ⟨cs, hcs, _⟩ := hro
      exact ⟨cs, hcs⟩
    | ea x b r c m i f nn =>
      have := List.all_eq_true.1 hrt _ (List.mem_of_getElem? hi)
      simp [rootB] at this
    | tp r c =>
      have := List.all_eq_true.1 hrt _ (List.mem_of_getElem? hi)
      simp [rootB] at this
    | undef => exact hr
    | void => exact hr
    | «at» _ _ => exact hr
    | ptr _ _ => exact hr
    | psh _ _ => exact hr
    | tup _ => exact hr
    | fn _ _ => exact hr
    | anyb _ _ => exact hr
    | ag r off n =>
      obtain ⟨h0, h1, h2⟩ := hr
      obtain ⟨cs, hcs, _⟩ := hro
      obtain ⟨c', ty, Y, _, q2, _⟩ := f5 r cs hcs
      exact ⟨h0, by rw [q2]; simp, h2⟩
  · have := List.all_eq_true.1 hd (x, b) hx
    simp only [Bool.and_eq_true] at this
    rw [under_ev this.2 hn]
    exact h.dec x b (by simpa using this.1)
  · obtain ⟨s', hs', hok⟩ := hb r _ hr
    cases s' with
    | none => simp [boxOk] at hok
    | some cs' => exact h.keepB r p (by rw [← hkb]; exact hp) cs' hs'

theorem jumpTo_sound {m : Meet} {n lvl : Nat} {ir : IR} {ρ0 : List Dy} {Ls : List Lb} {r : List Dy} (h : jumpTo m n τ lvl σ = some ir) (hden : den Fn N ir ρ Ls = some r) (hI : Inv sh0 w0 G0 ρ σ a w)
    (hρ : ρ0 <+: ρ) (hn : ρ0.length = n) : ∃ J ds, Ls[lvl]? = some J ∧ J ds = some r ∧ Inv sh0 w0 G0 (ρ0 ++ ds) τ a w ∧ (ρ0 ++ ds).length = τ.nv := by
  unfold jumpTo at h
  cases hx : m.args σ with
  | none => rw [hx] at h; cases h
  | some xs => ?_
  rw [hx] at h
  dsimp only at h
  split at h
  · rename_i hm
    simp only [Option.some.injEq] at h
    subst h
    simp only [den] at hden
    cases hJ : Ls[lvl]? with
    | none => rw [hJ] at hden; cases hden
    | some J => ?_
    cases hds : evAs ρ xs with
    | none => rw [hJ, hds] at hden; cases hden
    | some ds => ?_
    rw [hJ, hds] at hden
    have hle : n ≤ ρ.length := by rw [← hn]; exact hρ.length_le
    have htake : ρ.take n = ρ0 := by rw [← hn]; exact (List.prefix_iff_eq_take.1 hρ).symm
    refine ⟨J, ds, rfl, hden, by rw [← htake]; exact meets_sound hm hds hle hI, ?_⟩
    unfold meets at hm
    simp only [Bool.and_eq_true, beq_iff_eq] at hm
    rw [List.length_append, hn, (evAs_get hds).1]
    exact hm.1.1.2
  · cases h

def conv : Ext' → Exit
  | .norm => .normal
  | .exit id => .exit id
  | .ret => .ret

/-- A loop whose rounds are counted. -/
theorem wp_loop_n {c : Code} (I : Nat → Act → World → Prop) (round : ∀ n a w, I n a w → c.wp P (Exit.then (fun a' w' => ∃ m, m < n ∧ I m a' w') Q) a w) :
    ∀ n a w, I n a w → (Code.loop c).wp P Q a w := by
  intro n a w hI b k cs
  have key : ∀ n a w, I n a w → ∃ e a' w', Q e a' w' ∧ Arrives P (lone (b.at a (.code c :: .inLoop c :: k)) cs w) b k cs e a' w' := by
    intro n
    induction n using Nat.strongRecOn with
    | _ n ih =>
      intro a w hI
      obtain ⟨e, a₁, w₁, hq, harr⟩ := round n a w hI b (.inLoop c :: k) cs
      cases e with
      | normal =>
        obtain ⟨m, hlt, hI₁⟩ := hq
        obtain ⟨e₂, a₂, w₂, hq₂, harr₂⟩ := ih m hlt a₁ w₁ hI₁
        exact ⟨e₂, a₂, w₂, hq₂, .of_steps (Steps.trans harr (.one step_inLoop)) harr₂⟩
      | exit id => exact ⟨_, a₁, w₁, hq, .pass (x := .inLoop c) rfl (fun _ _ => .inl (by simp)) harr⟩
      | goto l => exact ⟨_, a₁, w₁, hq, .pass (x := .inLoop c) rfl (fun _ _ => .inl (by simp)) harr⟩
      | ret => exact ⟨_, a₁, w₁, hq, .pass (x := .inLoop c) rfl (fun _ _ => .inl (by simp)) harr⟩
      | panic ch => exact ⟨_, a₁, w₁, hq, .pass (x := .inLoop c) rfl (fun _ _ => .inl (by simp)) harr⟩
      | outgrown => exact ⟨_, a₁, w₁, hq, .pass (x := .inLoop c) rfl (fun _ _ => .inl (by simp)) harr⟩
  obtain ⟨e, a', w', hq, harr⟩ := key _ a w hI
  exact ⟨e, a', w', hq, .of_steps (.one step_loop) harr⟩

def XOk (P : Program) (Fn : Fns) (N : Nat) (sh0 : Nat → Prop) (w0 : World) (G0 : Frm) (r ρ0 : List Dy) (Ls : List Lb) (K : Ext' → Sg → Option IR) (Q : Exit → Act → World → Prop) : Prop :=
  ∀ e, KOk P Fn N sh0 w0 G0 r ρ0 Ls (K e) (Q (conv e))

theorem XOk.on {r ρ0 ρ1 : List Dy} {Ls Ls1 : List Lb} {K : Ext' → Sg → Option IR} (h : XOk P Fn N sh0 w0 G0 r ρ0 Ls K Q) (h1 : ρ0 <+: ρ1) (h2 : Ls <+: Ls1) : XOk P Fn N sh0 w0 G0 r ρ1 Ls1 K Q :=
  fun e => (h e).on h1 h2

theorem sx_sound {dp : Bool} (hmix : P.follows .mixedOrders = true) (hC : ∀ f s, C f = some s → Con P Fn f s) : ∀ (c : Code) (K : Ext' → Sg → Option IR) (σ : Sg) (ir : IR) (ρ : List Dy) (Ls : List Lb) (a : Act) (w : World) (r : List Dy) (Q : Exit → Act → World → Prop),
    sx P C dp H c K σ = some ir → den Fn N ir ρ Ls = some r → Inv sh0 w0 G0 ρ σ a w → ρ.length = σ.nv → Ls.length = σ.nl → XOk P Fn N sh0 w0 G0 r ρ Ls K Q → c.wp P Q a w
  | .skip, K, σ, ir, ρ, Ls, a, w, r, Q, h, hden, hI, hv, hl, hK => wp_skip (hK .norm Ls (List.prefix_refl _) σ ρ ir a w (List.prefix_refl _) h hden hI hv hl)
  | .label _, K, σ, ir, ρ, Ls, a, w, r, Q, h, hden, hI, hv, hl, hK => wp_label (hK .norm Ls (List.prefix_refl _) σ ρ ir a w (List.prefix_refl _) h hden hI hv hl)
  | .exit id, K, σ, ir, ρ, Ls, a, w, r, Q, h, hden, hI, hv, hl, hK => wp_exit (hK (.exit id) Ls (List.prefix_refl _) σ ρ ir a w (List.prefix_refl _) h hden hI hv hl)
  | .ret, K, σ, ir, ρ, Ls, a, w, r, Q, h, hden, hI, hv, hl, hK => wp_ret (hK .ret Ls (List.prefix_refl _) σ ρ ir a w (List.prefix_refl _) h hden hI hv hl)
  | .region id ops draw, K, σ, ir, ρ, Ls, a, w, r, Q, h, hden, hI, hv, hl, hK => by
    cases draw with
    | true =>
      simp only [sx, if_true] at h
      exact draw_region hmix hC (hK .norm) h hden hI hv hl
    | false =>
      simp only [sx, Bool.false_eq_true, if_false] at h
      refine wp_region ?_
      have := sxOps_sound (ops := ops) hC (hK .norm) ops.toList 0 (fun j => by simp) Ls (List.prefix_refl _) σ ρ ir a w (List.prefix_refl _) h hden hI hv hl
      rwa [Array.length_toList, ← List.range_eq_range'] at this
  | .cond c x y, K, σ, ir, ρ, Ls, a, w, r, Q, h, hden, hI, hv, hl, hK => by
    simp only [sx] at h
    cases ho : opnd P 0 c σ with
    | none => rw [ho] at h; cases h
    | some p => ?_
    obtain ⟨s, l⟩ := p
    rw [ho] at h
    split at h
    · rename_i xa l' heq
      simp only [Option.some.injEq, Prod.mk.injEq] at heq
      obtain ⟨rfl, rfl⟩ := heq
      obtain ⟨sh, F, β, hG⟩ := id hI
      obtain ⟨d, e1, e2⟩ := opnd_sh hG ho
      have hval : ∀ b, evA ρ xa = some ⟨.bool, b⟩ → a.eval c = .bool b := fun b hb => by
        obtain rfl := some_eq hb e1
        exact valA_rep e2 rfl
      cases hk : known σ xa with
      | some t =>
        rw [hk] at h
        dsimp only at h
        have hb := hval t (known_rep hG hk)
        cases t with
        | true => exact wp_cond_true hb (sx_sound hmix hC x K σ ir ρ Ls a w r Q (by simpa using h) hden hI hv hl hK)
        | false => exact wp_cond_false hb (sx_sound hmix hC y K σ ir ρ Ls a w r Q (by simpa using h) hden hI hv hl hK)
      | none =>
        rw [hk] at h
        dsimp only at h
        cases ht : sx P C dp H x K (σ.say xa true) with
        | none => rw [ht] at h; cases h
        | some t => ?_
        cases he : sx P C dp H y K (σ.say xa false) with
        | none => rw [ht, he] at h; cases h
        | some e => ?_
        rw [ht, he] at h
        simp only [Option.some.injEq] at h
        subst h
        simp only [den] at hden
        split at hden
        · rename_i b hb
          cases b with
          | true => exact wp_cond_true (hval _ hb) (sx_sound hmix hC x K _ t ρ Ls a w r Q ht (by simpa using hden) (hI.say hb) hv hl hK)
          | false => exact wp_cond_false (hval _ hb) (sx_sound hmix hC y K _ e ρ Ls a w r Q he (by simpa using hden) (hI.say hb) hv hl hK)
        · cases hden
    · rename_i ne xa l' heq
      simp only [Option.some.injEq, Prod.mk.injEq] at heq
      obtain ⟨rfl, rfl⟩ := heq
      obtain ⟨sh, F, β, hG⟩ := id hI
      obtain ⟨i, _, _, hr⟩ := opnd_tmp hG ho (by simp) (by simp)
      obtain ⟨_, b, e', l, hb, hxe, hbn⟩ := hr
      cases ht : sx P C dp H x K σ with
      | none => rw [ht] at h; cases h
      | some t => ?_
      cases he : sx P C dp H y K σ with
      | none => rw [ht, he] at h; cases h
      | some e => ?_
      rw [ht, he] at h
      simp only [Option.some.injEq] at h
      subst h
      simp only [den, hxe] at hden
      by_cases hl0 : List.length l = 0
      case neg =>
        rw [if_neg hl0] at hden
        have hbe := hbn hl0
        subst hbe
        cases b with
        | true => exact wp_cond_true hb (sx_sound hmix hC x K _ t ρ Ls a w r Q ht (by simpa using hden) hI hv hl hK)
        | false => exact wp_cond_false hb (sx_sound hmix hC y K _ e ρ Ls a w r Q he (by simpa using hden) hI hv hl hK)
      rw [if_pos hl0] at hden
      cases hdt : den Fn N t ρ Ls with
      | none => rw [hdt] at hden; cases hden
      | some r1 => ?_
      cases hde : den Fn N e ρ Ls with
      | none => rw [hdt, hde] at hden; cases hden
      | some r2 => ?_
      rw [hdt, hde] at hden
      dsimp only at hden
      split at hden
      · rename_i hrr
        simp only [Option.some.injEq] at hden
        subst hden
        subst hrr
        cases b with
        | true => exact wp_cond_true hb (sx_sound hmix hC x K _ t ρ Ls a w _ Q ht hdt hI hv hl hK)
        | false => exact wp_cond_false hb (sx_sound hmix hC y K _ e ρ Ls a w _ Q he hde hI hv hl hK)
      · cases hden
    · cases h
  | .block id c, K, σ, ir, ρ, Ls, a, w, r, Q, h, hden, hI, hv, hl, hK => by
    simp only [sx] at h
    refine wp_block (sx_sound hmix hC c _ σ ir ρ Ls a w r _ h hden hI hv hl ?_)
    intro e Ls' hp σ' ρ' ir' a' w' hρ hk hden' hI' hv' hl'
    cases e with
    | norm => exact hK .norm Ls' hp σ' ρ' ir' a' w' hρ hk hden' hI' hv' hl'
    | ret => exact hK .ret Ls' hp σ' ρ' ir' a' w' hρ hk hden' hI' hv' hl'
    | exit i =>
      have hk : (if i = id then K Ext'.norm σ' else K (Ext'.exit i) σ') = some ir' := hk
      show Exit.inBlock id Q (.exit i) a' w'
      unfold Exit.inBlock
      dsimp only
      by_cases hi : i = id
      · rw [if_pos hi] at hk ⊢
        exact hK .norm Ls' hp σ' ρ' ir' a' w' hρ hk hden' hI' hv' hl'
      · rw [if_neg hi] at hk ⊢
        exact hK (.exit i) Ls' hp σ' ρ' ir' a' w' hρ hk hden' hI' hv' hl'
  | .seq x y, K, σ, ir, ρ, Ls, a, w, r, Q, h, hden, hI, hv, hl, hK => by
    simp only [sx] at h
    refine wp_seq ?_
    cases hm : (firstRegion y).bind (Hints.at H 1) with
    | none =>
      rw [hm] at h
      dsimp only at h
      refine sx_sound hmix hC x _ σ ir ρ Ls a w r _ h hden hI hv hl ?_
      intro e Ls' hp σ' ρ' ir' a' w' hρ hk hden' hI' hv' hl'
      cases e with
      | norm => exact sx_sound hmix hC y K σ' ir' ρ' Ls' a' w' r Q hk hden' hI' hv' hl' (hK.on hρ hp)
      | ret => exact hK .ret Ls' hp σ' ρ' ir' a' w' hρ hk hden' hI' hv' hl'
      | exit i => exact hK (.exit i) Ls' hp σ' ρ' ir' a' w' hρ hk hden' hI' hv' hl'
    | some m =>
      rw [hm] at h
      dsimp only at h
      cases hb : sx P C dp H y K (m.state σ (writes x)) with
      | none => rw [hb] at h; cases h
      | some body => ?_
      cases hmain : sx P C dp H x (kMeet m σ.nv (m.state σ (writes x)) σ.nl K) { σ with nl := σ.nl + 1 } with
      | none => rw [hb, hmain] at h; cases h
      | some main => ?_
      rw [hb, hmain] at h
      simp only [Option.some.injEq] at h
      subst h
      simp only [den] at hden
      refine sx_sound hmix hC x _ _ main ρ _ a w r _ hmain hden (hI.nv rfl rfl rfl) hv (by simp [hl]) ?_
      intro e Ls' hp σ' ρ' ir' a' w' hρ hk hden' hI' hv' hl'
      have hp0 : Ls <+: Ls' := (List.prefix_append _ _).trans hp
      cases e with
      | ret => exact hK .ret Ls' hp0 σ' ρ' ir' a' w' hρ hk hden' hI' hv' hl'
      | exit i => exact hK (.exit i) Ls' hp0 σ' ρ' ir' a' w' hρ hk hden' hI' hv' hl'
      | norm =>
        obtain ⟨J, ds, hJ, hJr, hInv, hlen⟩ := jumpTo_sound hk hden' hI' hρ hv
        have hJ' : Ls'[σ.nl]? = some (lab false N (fun J args => den Fn N body (ρ ++ args) (Ls ++ [J]))) := by
          obtain ⟨Lx, rfl⟩ := hp
          rw [List.getElem?_append_left (by simp [hl]), List.getElem?_append_right (by omega)]
          simp [hl]
        obtain rfl := some_eq hJ hJ'
        simp only [lab, cond_false] at hJr
        exact sx_sound hmix hC y K _ body (ρ ++ ds) _ a' w' r Q hb hJr hInv hlen (by simp [Meet.state, hl]) (hK.on (List.prefix_append _ _) (List.prefix_append _ _))
  | .loop c, K, σ, ir, ρ, Ls, a, w, r, Q, h, hden, hI, hv, hl, hK => by
    simp only [sx] at h
    cases hm : (firstRegion c).bind (Hints.at H 0) with
    | none => rw [hm] at h; cases h
    | some m => ?_
    rw [hm] at h
    dsimp only at h
    cases hb : sx P C dp H c (kMeet m σ.nv (m.state σ (writes c)) σ.nl K) (m.state σ (writes c)) with
    | none => rw [hb] at h; cases h
    | some body => ?_
    cases hmain : jumpTo m σ.nv (m.state σ (writes c)) σ.nl σ with
    | none => rw [hb, hmain] at h; cases h
    | some main => ?_
    rw [hb, hmain] at h
    simp only [Option.some.injEq] at h
    subst h
    simp only [den] at hden
    obtain ⟨J, ds, hJ, hJr, hInv, hlen⟩ := jumpTo_sound hmain hden hI (List.prefix_refl _) hv
    have hJ' : (Ls ++ [lab true N (fun J args => den Fn N body (ρ ++ args) (Ls ++ [J]))])[σ.nl]? = some (lab true N (fun J args => den Fn N body (ρ ++ args) (Ls ++ [J]))) := by
      rw [List.getElem?_append_right (by omega)]; simp [hl]
    obtain rfl := some_eq hJ hJ'
    simp only [lab, cond_true] at hJr
    refine wp_loop_n (fun n a w => ∃ ds, rounds (fun J args => den Fn N body (ρ ++ args) (Ls ++ [J])) n ds = some r ∧ Inv sh0 w0 G0 (ρ ++ ds) (m.state σ (writes c)) a w ∧ (ρ ++ ds).length = (m.state σ (writes c)).nv) ?_ N a w ⟨ds, hJr, hInv, hlen⟩
    rintro n a w ⟨ds, hJr, hInv, hlen⟩
    cases n with
    | zero => cases hJr
    | succ n =>
      simp only [rounds] at hJr
      refine sx_sound hmix hC c _ _ body (ρ ++ ds) _ a w r _ hb hJr hInv hlen (by simp [Meet.state, hl]) ?_
      intro e Ls' hp σ' ρ' ir' a' w' hρ hk hden' hI' hv' hl'
      have hp0 : Ls <+: Ls' := (List.prefix_append _ _).trans hp
      have hρ0 : ρ <+: ρ' := (List.prefix_append _ _).trans hρ
      cases e with
      | ret => exact hK .ret Ls' hp0 σ' ρ' ir' a' w' hρ0 hk hden' hI' hv' hl'
      | exit i => exact hK (.exit i) Ls' hp0 σ' ρ' ir' a' w' hρ0 hk hden' hI' hv' hl'
      | norm =>
        obtain ⟨J, ds', hJ2, hJr2, hInv2, hlen2⟩ := jumpTo_sound hk hden' hI' hρ0 hv
        have hJ2' : Ls'[σ.nl]? = some (rounds (fun J args => den Fn N body (ρ ++ args) (Ls ++ [J])) n) := by
          obtain ⟨Lx, rfl⟩ := hp
          rw [List.getElem?_append_left (by simp [hl]), List.getElem?_append_right (by omega)]
          simp [hl]
        obtain rfl := some_eq hJ2 hJ2'
        exact ⟨n, Nat.lt_succ_self n, ds', hJr2, hInv2, hlen2⟩
  | .rangeFunc .., K, σ, ir, ρ, Ls, a, w, r, Q, h, hden, hI, hv, hl, hK => by simp [sx] at h
  | .scope .., K, σ, ir, ρ, Ls, a, w, r, Q, h, hden, hI, hv, hl, hK => by simp [sx] at h
  | .goto .., K, σ, ir, ρ, Ls, a, w, r, Q, h, hden, hI, hv, hl, hK => by simp [sx] at h
  | .refuse .., K, σ, ir, ρ, Ls, a, w, r, Q, h, hden, hI, hv, hl, hK => by simp [sx] at h

end
end Go.Vm
