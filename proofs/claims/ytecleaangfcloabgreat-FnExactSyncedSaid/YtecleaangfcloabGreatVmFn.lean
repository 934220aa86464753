/- A function's contract, out of its text. Lemmas alone, no statement. -/
import Derived.Test.YtecleaangfcloabGreatVmSound2
namespace Go.Vm
set_option linter.unusedVariables false
set_option linter.unusedSimpArgs false
open Go.RowKit

/-- What a function's text answers. -/
noncomputable def fnDen (Fn : Fns) (N : Nat) (ir : IR) (s : Sig) (ds : List Dy) : Option (List Dy) :=
  if ds.length = s.nin then
    match den Fn N ir ds [] with
    | some rs => if rs.map (·.1) = s.rt.map (·.1) then some rs else none
    | none => none
  else none

section
variable {P : Program} {C : Nat → Option Sig} {Fn : Fns} {N : Nat} {H : Hints} {sh0 : Nat → Prop} {w0 : World} {G0 : List Nat} {ρ δ : List Dy} {σ τ : Sg} {a : Act} {w w' : World}
  {sh sh' : Nat → Prop} {F : Bool → Nat → List Nat} {β : Nat → Nat} {Q : Exit → Act → World → Prop}

theorem ptrs_caps {j : Nat} : ∀ {ds : List Dy} {us : List Value} {i : Nat}, PtrsRep sh w ds us → (∀ k d, ds[k]? = some d → ρ[i + k]? = some d) → CapsRep sh w ρ β ((List.range' i ds.length).map fun i => .psh (.var i)) us
  | [], us, i, h, _ => h
  | d :: ds, us, i, h, hρ => by
    obtain ⟨u, us', rfl, h1, h2⟩ := h
    rw [List.length_cons, List.range'_succ, List.map_cons]
    refine ⟨u, us', rfl, ⟨d, by simpa [evA] using hρ 0 d rfl, h1⟩, ptrs_caps (j := j) h2 (fun k e hk => ?_)⟩
    have := hρ (k + 1) e (by simpa using hk)
    rw [← this]
    congr 1
    omega

theorem startS_len : ∀ {pk : List PK} {j : Nat}, (startS j pk).length = pk.length
  | [], _ => rfl
  | .val :: pk, j => by simp [startS, startS_len (pk := pk)]
  | .rd :: pk, j => by simp [startS, startS_len (pk := pk)]
  | .nil :: pk, j => by simp [startS, startS_len (pk := pk)]
  | .fn _ _ :: pk, j => by simp [startS, startS_len (pk := pk)]

theorem startS_root : ∀ {pk : List PK} {j i : Nat} {s : SV}, (startS j pk)[i]? = some s → rootOk τ s
  | [], _, _, _, h => by simp [startS] at h
  | .val :: pk, j, 0, s, h => by simp [startS] at h; subst h; trivial
  | .rd :: pk, j, 0, s, h => by simp [startS] at h; subst h; trivial
  | .nil :: pk, j, 0, s, h => by simp [startS] at h; subst h; trivial
  | .nil :: pk, j, i + 1, s, h => startS_root (pk := pk) (j := j) (i := i) (by simpa [startS] using h)
  | .fn _ _ :: pk, j, 0, s, h => by simp [startS] at h; subst h; trivial
  | .val :: pk, j, i + 1, s, h => startS_root (pk := pk) (j := j + 1) (i := i) (by simpa [startS] using h)
  | .rd :: pk, j, i + 1, s, h => startS_root (pk := pk) (j := j + 1) (i := i) (by simpa [startS] using h)
  | .fn _ n :: pk, j, i + 1, s, h => startS_root (pk := pk) (j := j + n) (i := i) (by simpa [startS] using h)

theorem ArgsRep.nin : ∀ {pk : List PK} {ds : List Dy} {vs : List Value}, ArgsRep sh w pk ds vs → vs.length = pk.length
  | [], ds, vs, h => by obtain ⟨_, rfl⟩ := h; rfl
  | k :: pk, ds, vs, h => by
    obtain ⟨ds1, ds2, v, us, rfl, rfl, h1, h2⟩ := h
    simp [ArgsRep.nin h2]

theorem ArgRep.len {k : PK} {ds : List Dy} {v : Value} (h : ArgRep sh w k ds v) : ds.length = k.n := by
  cases k with
  | val => obtain ⟨d, rfl, _⟩ := h; rfl
  | rd => obtain ⟨d, rfl, _⟩ := h; rfl
  | nil => rw [h.1]; rfl
  | fn g n => exact h.1

theorem startS_rep {tm : Array Value} : ∀ {pk : List PK} {ds : List Dy} {vs : List Value} {j : Nat}, ArgsRep sh w pk ds vs → (∀ k d, ds[k]? = some d → ρ[j + k]? = some d) →
    ∀ (i : Nat) (s : SV), (startS j pk)[i]? = some s → ∃ v, vs[i]? = some v ∧ SVRep sh w ρ β tm F s v []
  | [], ds, vs, j, h, hρ, i, s, hi => by simp [startS] at hi
  | k :: pk, ds, vs, j, h, hρ, i, s, hi => by
    obtain ⟨ds1, ds2, v, us, rfl, rfl, h1, h2⟩ := h
    have hn := h1.len
    have hrest : ∀ k' d, ds2[k']? = some d → ρ[j + k.n + k']? = some d := fun k' d hd => by
      have := hρ (k.n + k') d (by rw [List.getElem?_append_right (by omega), hn]; simpa using hd)
      rwa [← Nat.add_assoc] at this
    have hfirst : ∀ k' d, ds1[k']? = some d → ρ[j + k']? = some d := fun k' d hd => hρ k' d (by rw [List.getElem?_append_left (List.getElem?_eq_some_iff.1 hd).1]; exact hd)
    cases i with
    | succ i =>
      have hi' : (startS (j + k.n) pk)[i]? = some s := by cases k <;> simpa [startS, PK.n] using hi
      obtain ⟨v', e1, e2⟩ := startS_rep (tm := tm) h2 hrest i s hi'
      exact ⟨v', by simpa using e1, e2⟩
    | zero =>
      refine ⟨v, rfl, ?_⟩
      cases k with
      | val =>
        simp [startS] at hi
        subst hi
        obtain ⟨d, rfl, hd⟩ := h1
        exact ⟨d, by simpa [evA] using hfirst 0 d rfl, hd⟩
      | rd =>
        simp [startS] at hi
        subst hi
        obtain ⟨d, rfl, b, o, c, ty, fz, rfl, hd⟩ := h1
        exact ⟨rfl, d, b, o, c, ty, fz, by simpa [evA] using hfirst 0 d rfl, rfl, hd⟩
      | fn g n =>
        simp [startS] at hi
        subst hi
        obtain ⟨rfl, us, rfl, hu⟩ := h1
        exact ⟨rfl, us, rfl, ptrs_caps (j := j) hu hfirst⟩
      | nil =>
        simp [startS] at hi
        subst hi
        rfl

theorem start_inv {args : Array Value} {ds : List Dy} {n : Nat} {s : Sig} (hsh : ∀ b, sh b → b < w.heap.size) (hr : ArgsRep sh w s.pk ds args.toList) (hn : s.pk.length ≤ n) :
    Inv sh w [] ds (startSg n s) { tmps := args ++ Array.replicate (n - args.size) undef, defers := [] } w := by
  have hl := hr.nin
  have hl' : args.size = s.pk.length := by simpa using hl
  have hsl : (startSg n s).slots.length = n := by simp [startSg, startS_len]; omega
  refine ⟨sh, fun _ _ => [], fun _ => 0, ?_⟩
  exact {
    defers := rfl
    size := by rw [hsl]; simp; omega
    ext := Ext.refl _ _
    sh_old := fun _ h => h
    sh_lt := hsh
    sh_new := fun _ h => .inl h
    slot := fun i t hi => by
      simp only [startSg] at hi
      by_cases hia : i < s.pk.length
      · rw [List.getElem?_append_left (by rw [startS_len]; exact hia)] at hi
        obtain ⟨v, hv, hrep⟩ := startS_rep (ρ := ds) (β := fun _ => 0) (F := fun _ _ => []) (tm := args ++ Array.replicate (n - args.size) undef) hr (fun k d hd => by simpa using hd) i t hi
        refine ⟨v, ?_, hrep⟩
        rw [Array.getElem?_append_left (by omega)]
        simpa using hv
      · rw [List.getElem?_append_right (by rw [startS_len]; omega), startS_len, List.getElem?_replicate] at hi
        split at hi
        · simp only [Option.some.injEq] at hi
          subst hi
          refine ⟨undef, ?_, rfl⟩
          rw [Array.getElem?_append_right (by omega), Array.getElem?_replicate, if_pos (by omega)]
        · cases hi
    noslot := fun _ _ => rfl
    box := fun r cs hr => by
      simp only [startSg] at hr
      have := List.getElem?_eq_some_iff.1 hr
      obtain ⟨h1, h2⟩ := this
      simp at h2
    nobox := fun _ _ => rfl
    nodup := fun _ _ => by simp
    own := fun _ _ b hb => by simp at hb
    disj := fun _ _ _ _ _ b hb => by simp at hb
    dec := fun _ _ h => by simp [startSg] at h
    refs := fun i t hi => by
      simp only [startSg] at hi
      by_cases hia : i < s.pk.length
      · rw [List.getElem?_append_left (by rw [startS_len]; exact hia)] at hi
        exact startS_root hi
      · rw [List.getElem?_append_right (by rw [startS_len]; omega), startS_len, List.getElem?_replicate] at hi
        split at hi
        · simp only [Option.some.injEq] at hi
          subst hi
          trivial
        · cases hi }

/-- The model's way of reading one result. -/
def readRes (tmps : Array Value) : ResultVar → Sem Value
  | .tmp t => pure (tmps.getD t undef)
  | .cell a t => do loadVar t (← asAddr (tmps.getD a undef))

theorem tmps_getD {i : Nat} {v : Value} (h : a.tmps[i]? = some v) : a.tmps.getD i undef = v := by simp [Array.getD_eq_getD_getElem?, h]

theorem coeR_rep {x : A} {m m' : Md} {d : Dy} {vs : List Value} {X : List Nat} (hc : coeR x m m' = true) (hx : evA ρ x = some d) (h : Rep sh w d.1 m' d.2 vs X) :
    ∃ X', (X' = X ∨ X' = []) ∧ Rep sh w d.1 m d.2 vs X' := by
  unfold coeR at hc
  simp only [Bool.or_eq_true, beq_iff_eq] at hc
  rcases hc with rfl | hc
  · exact ⟨X, .inl rfl, h⟩
  · split at hc
    · simp only [evA, Option.some.injEq] at hx
      subst hx
      exact ⟨X, .inl rfl, nil_own h⟩
    · simp only [evA, Option.some.injEq] at hx
      subst hx
      obtain ⟨ad, cap, h1, h2, _⟩ := h
      exact ⟨[], .inr rfl, ad, cap, h1, h2, rfl, .inl rfl⟩
    · cases hc

/-- Cells put together. -/
theorem matchM_rep : ∀ {cs : List Cell} {m : Md} {xs : List A} {vs : List Value} {X : List Nat} {ds : List Dy} {r : Dy}, matchM m cs = some xs → RepL (one (CellRep sh w ρ)) cs vs X → evAs ρ xs = some ds → Dy.ofCells ds = some r →
    ∃ X', (∀ b ∈ X', b ∈ X) ∧ (X.Nodup → X'.Nodup) ∧ Rep sh w r.1 m r.2 vs X' ∧ r.1.isAgg = true
  | [], m, xs, vs, X, ds, r, hm, hr, he, hd => by
    simp only [matchM, Option.some.injEq] at hm
    subst hm
    simp only [evAs, Option.some.injEq] at he
    subst he
    simp only [Dy.ofCells, Option.some.injEq] at hd
    subst hd
    obtain ⟨rfl, rfl⟩ := hr
    exact ⟨[], by simp, by simp, ⟨rfl, rfl⟩, rfl⟩
  | none :: cs, m, xs, vs, X, ds, r, hm, hr, he, hd => by simp [matchM] at hm
  | some (x, m') :: cs, m, xs, vs, X, ds, r, hm, hr, he, hd => by
    simp only [matchM] at hm
    split at hm
    · rename_i hc
      obtain ⟨ys, hy, rfl⟩ := Option.map_eq_some_iff.1 hm
      obtain ⟨v1, v2, F1, F2, rfl, rfl, ⟨v, rfl, d, e1, e2, e3⟩, hrest⟩ := hr
      obtain ⟨d', es, k1, k2, rfl⟩ := evAs_cons he
      obtain rfl := some_eq e1 k1
      unfold Dy.ofCells at hd
      rw [if_neg (by simp [e2])] at hd
      cases hq : Dy.ofCells es with
      | none => rw [hq] at hd; cases hd
      | some q =>
        rw [hq] at hd
        simp only [Option.some.injEq] at hd
        subst hd
        obtain ⟨X2, a1, a2, a3, a4⟩ := matchM_rep hy hrest k2 hq
        obtain ⟨X1, b1, b2⟩ := coeR_rep hc e1 e3
        have hsub : ∀ b ∈ X1, b ∈ F1 := by rcases b1 with rfl | rfl <;> simp
        refine ⟨X1 ++ X2, fun b hb => ?_, fun hn => ?_, ⟨[v], v2, X1, X2, rfl, rfl, b2, a3⟩, rfl⟩
        · rcases List.mem_append.1 hb with hb | hb
          · exact List.mem_append_left _ (hsub b hb)
          · exact List.mem_append_right _ (a1 b hb)
        · have h4 := List.nodup_append.1 hn
          refine List.nodup_append.2 ⟨by rcases b1 with rfl | rfl; exact h4.1; simp, a2 h4.2.1, fun x hx y hy => h4.2.2 x (hsub x hx) y (a1 y hy)⟩
    · cases hm

theorem RepL.subN {α : Type} {R : α → Value → List Nat → Prop} {xs : List α} {vs : List Value} {F : List Nat} (f n : Nat) (h : RepL (one R) xs vs F) : ∃ G, (∀ b ∈ G, b ∈ F) ∧ (F.Nodup → G.Nodup) ∧ RepL (one R) ((xs.drop f).take n) ((vs.drop f).take n) G := by
  obtain ⟨A, B, rfl, _, r2⟩ := RepL.cut f h
  obtain ⟨B1, B2, rfl, s1, _⟩ := RepL.cut n r2
  refine ⟨B1, fun b hb => List.mem_append_right _ (List.mem_append_left _ hb), fun hn => ?_, s1⟩
  exact (List.nodup_append.1 (List.nodup_append.1 hn).2.1).1

theorem resOne_rep {nv : Nat} {m : Md} {v : ResultVar} {es : List Em} {x : A} (h : InvG sh0 w0 G0 ρ σ a w sh F β) (hr : resOne P σ nv m v = some (es, x)) (he : EmOk Fn ρ nv es) :
    ∃ u d X, (readRes a.tmps v).run P w = .ok u w ∧ evA ρ x = some d ∧ ValRep sh w d m u X ∧ (∀ b ∈ X, b ∈ F (resKey σ v).1 (resKey σ v).2) ∧ X.Nodup := by
  cases v with
  | tmp t =>
    simp only [resOne, getR_eq] at hr
    split at hr
    · rename_i y m' hs
      have hkey : resKey σ (.tmp t) = (false, t) := by simp [resKey, getR_eq, hs]
      rw [hkey]
      split at hr
      · rename_i hm
        simp only [Option.some.injEq, Prod.mk.injEq] at hr
        obtain ⟨rfl, rfl⟩ := hr
        obtain ⟨u, hu, d, h1, vs, h2, h3⟩ := h.slot t _ hs
        obtain ⟨X, hX, h4⟩ := coeR_rep hm h1 h3
        refine ⟨u, d, X, by simp [readRes, tmps_getD hu], h1, ⟨vs, h2, h4⟩, fun b hb => ?_, ?_⟩
        · rcases hX with rfl | rfl
          · exact hb
          · simp at hb
        · rcases hX with rfl | rfl
          · exact h.nodup _ _
          · simp
      · cases hr
    · rename_i r c hs
      have hkey : resKey σ (.tmp t) = (true, r) := by simp [resKey, getR_eq, hs]
      rw [hkey]
      obtain ⟨u, hu, _, _, hcell⟩ := h.slot t _ hs
      split at hr
      · rename_i b hb
        obtain ⟨cc, ct, F', k1, k2, k3⟩ := h.box r b hb
        have hnd := h.nodup true r
        rw [k2] at hnd
        have hnd' := (List.nodup_cons.1 hnd).2
        split at hr
        · rename_i y m' hy
          split at hr
          · rename_i hm
            simp only [Option.some.injEq, Prod.mk.injEq] at hr
            obtain ⟨rfl, rfl⟩ := hr
            obtain ⟨v, A, X, B, hcf, rfl, ⟨dy, e1, e2, e3⟩, _⟩ := RepL.pick (y := (none : Cell)) (fun _ => rfl) k3 hy
            have huv : u = v := by
              simp only [World.cell?, k1] at hcell
              have hcf : cc[c]? = some v := by simpa using hcf
              rw [hcf] at hcell
              simpa using hcell.symm
            subst huv
            obtain ⟨X', hX', h4⟩ := coeR_rep hm e1 e3
            refine ⟨u, dy, X', by simp [readRes, tmps_getD hu], e1, valRep_atom ⟨e2, h4⟩, fun b hb => ?_, ?_⟩
            · rw [k2]
              rcases hX' with rfl | rfl
              · exact List.mem_cons_of_mem _ (List.mem_append_right _ (List.mem_append_left _ hb))
              · simp at hb
            · rcases hX' with rfl | rfl
              · exact (List.nodup_append.1 (List.nodup_append.1 hnd').2.1).1
              · simp
          · cases hr
        · cases hr
      · cases hr
    · rename_i r f n hs
      have hkey : resKey σ (.tmp t) = (true, r) := by simp [resKey, getR_eq, hs]
      rw [hkey]
      obtain ⟨u, hu, _, _, c0, ty0, fz0, g1, g2, rfl⟩ := h.slot t _ hs
      split at hr
      · rename_i b hb
        obtain ⟨xs, hxs, heq⟩ := Option.map_eq_some_iff.1 hr
        simp only [Prod.mk.injEq] at heq
        obtain ⟨rfl, rfl⟩ := heq
        obtain ⟨cc, ct, F', k1, k2, k3⟩ := h.box r b hb
        have hnd := h.nodup true r
        rw [k2] at hnd
        have hnd' := (List.nodup_cons.1 hnd).2
        rw [k1] at g1
        simp only [Option.some.injEq, Obj.cells.injEq] at g1
        obtain ⟨rfl, rfl, rfl⟩ := g1
        obtain ⟨G, hG, hGn, hsub⟩ := RepL.subN (R := CellRep sh w ρ) f n k3
        obtain ⟨dy, e1, e2⟩ := he.1
        unfold ev at e1
        cases hds : evAs ρ xs with
        | none => simp only [hds] at e1; cases e1
        | some ds =>
          simp only [hds, evX] at e1
          obtain ⟨X', q1, q2, q3, q4⟩ := matchM_rep hxs hsub hds e1
          exact ⟨_, dy, X', by simp only [readRes, tmps_getD hu]; exact Sem.run_pure .., e2, ⟨_, by rw [q4]; rfl, q3⟩, fun b hb => by rw [k2]; exact List.mem_cons_of_mem _ (hG b (q1 b hb)), q2 (hGn hnd')⟩
      · cases hr
    · cases hr
  | cell t ty =>
    simp only [resOne, getR_eq] at hr
    split at hr
    · rename_i r f hs
      have hkey : resKey σ (.cell t ty) = (true, r) := by simp [resKey, getR_eq, hs]
      rw [hkey]
      obtain ⟨u, hu, _, rfl⟩ := h.slot t _ hs
      split at hr
      · rename_i b hb
        obtain ⟨c, ct, F', k1, k2, k3⟩ := h.box r b hb
        have hnd := h.nodup true r
        rw [k2] at hnd
        have hnd' := (List.nodup_cons.1 hnd).2
        have hsz : c.size = b.length := by
          have := RepL.len (n := 1) (fun x vs F hh => by obtain ⟨v, rfl, _⟩ := hh; rfl) k3
          simpa using this
        have hread : ∀ v, (loadVar ty ⟨β r, f, none⟩).run P w = .ok v w → (readRes a.tmps (.cell t ty)).run P w = .ok v w := by
          intro v hv
          simp only [readRes, tmps_getD hu, asAddr, Sem.run_bind, Sem.run_pure, Result.andThen_ok, hv]
        split at hr
        · rename_i hagg
          split at hr
          · rename_i hc
            obtain ⟨xs, hxs, heq⟩ := Option.map_eq_some_iff.1 hr
            simp only [Prod.mk.injEq] at heq
            obtain ⟨rfl, rfl⟩ := heq
            obtain ⟨hc1, hc2⟩ := hc
            obtain ⟨G, hG, hGn, hsub⟩ := RepL.subN (R := CellRep sh w ρ) f (P.cellsOf ty) k3
            obtain ⟨dy, e1, e2⟩ := he.1
            unfold ev at e1
            cases hds : evAs ρ xs with
            | none => simp only [hds] at e1; cases e1
            | some ds =>
              simp only [hds, evX] at e1
              obtain ⟨X', q1, q2, q3, q4⟩ := matchM_rep hxs hsub hds e1
              exact ⟨_, dy, X', hread _ (loadVar_agg hagg k1 rfl hc2 (by omega)), e2, ⟨_, by rw [q4]; rfl, q3⟩, fun b hb => by rw [k2]; exact List.mem_cons_of_mem _ (hG b (q1 b hb)), q2 (hGn hnd')⟩
          · cases hr
        · split at hr
          · rename_i hna
            split at hr
            · rename_i y m' hy
              split at hr
              · rename_i hm
                simp only [Option.some.injEq, Prod.mk.injEq] at hr
                obtain ⟨rfl, rfl⟩ := hr
                obtain ⟨v, A, X, B, hcf, rfl, ⟨dy, e1, e2, e3⟩, _⟩ := RepL.pick (y := (none : Cell)) (fun _ => rfl) k3 hy
                obtain ⟨dy', q1, q2⟩ := he.1
                unfold ev at q1
                simp only [evAs, e1, evX] at q1
                rw [if_neg (by simp [e2])] at q1
                simp only [Option.some.injEq] at q1
                subst q1
                obtain ⟨X', hX', h4⟩ := coeR_rep hm e1 e3
                refine ⟨v, dy, X', hread _ (loadVar_atom hna k1 (by simpa using hcf)), q2, valRep_atom ⟨e2, h4⟩, fun b hb => ?_, ?_⟩
                · rw [k2]
                  rcases hX' with rfl | rfl
                  · exact List.mem_cons_of_mem _ (List.mem_append_right _ (List.mem_append_left _ hb))
                  · simp at hb
                · rcases hX' with rfl | rfl
                  · exact (List.nodup_append.1 (List.nodup_append.1 hnd').2.1).1
                  · simp
              · cases hr
            · cases hr
          · cases hr
      · cases hr
    · cases hr

theorem resAll_rep (h : InvG sh0 w0 G0 ρ σ a w sh F β) : ∀ {rv : List ResultVar} {rt : List (Ty × Md)} {nv : Nat} {es : List Em} {xs : List A} {rs : List Dy}, resAll P σ nv rt rv = some (es, xs) → EmOk Fn ρ nv es →
    evAs ρ xs = some rs → rs.map (·.1) = rt.map (·.1) → (rv.map (resKey σ)).Nodup →
    ∃ vs X, (rv.mapM (readRes a.tmps)).run P w = .ok vs w ∧ ResL sh w rt rs vs X ∧ (∀ b ∈ X, ∃ k, k ∈ rv.map (resKey σ) ∧ b ∈ F k.1 k.2) ∧ X.Nodup
  | [], [], nv, es, xs, rs, hr, he, hx, _, _ => by
    simp only [resAll, Option.some.injEq, Prod.mk.injEq] at hr
    obtain ⟨rfl, rfl⟩ := hr
    simp only [evAs, Option.some.injEq] at hx
    subst hx
    exact ⟨[], [], by simp, ⟨rfl, rfl, rfl⟩, by simp, by simp⟩
  | [], _ :: _, nv, es, xs, rs, hr, _, _, _, _ => by simp [resAll] at hr
  | _ :: _, [], nv, es, xs, rs, hr, _, _, _, _ => by simp [resAll] at hr
  | v :: rv, t :: rt, nv, es, xs, rs, hr, he, hx, ht, hnd => by
    simp only [resAll] at hr
    cases h1 : resOne P σ nv t.2 v with
    | none => rw [h1] at hr; cases hr
    | some p => ?_
    obtain ⟨es1, x1⟩ := p
    rw [h1] at hr
    dsimp only at hr
    cases h2 : resAll P σ (nv + emN es1) rt rv with
    | none => rw [h2] at hr; cases hr
    | some q => ?_
    obtain ⟨es2, xs2⟩ := q
    rw [h2] at hr
    simp only [Option.some.injEq, Prod.mk.injEq] at hr
    obtain ⟨rfl, rfl⟩ := hr
    obtain ⟨he1, he2⟩ := he.split
    obtain ⟨d, ds, e1, e2, rfl⟩ := evAs_cons hx
    simp only [List.map_cons, List.cons.injEq] at ht
    simp only [List.map_cons] at hnd
    have hnd2 := List.nodup_cons.1 hnd
    obtain ⟨u, d', X1, r1, r2, r3, r4, r5⟩ := resOne_rep h h1 he1
    obtain rfl := some_eq e1 r2
    obtain ⟨vs, X2, k1, k2, k3, k4⟩ := resAll_rep h h2 he2 e2 ht.2 hnd2.2
    refine ⟨u :: vs, X1 ++ X2, by simp [List.mapM_cons, r1, k1], ⟨d, ds, u, vs, X1, X2, rfl, rfl, rfl, ht.1, r3, k2⟩, fun b hb => ?_, ?_⟩
    · rcases List.mem_append.1 hb with hb | hb
      · exact ⟨resKey σ v, by simp, r4 b hb⟩
      · obtain ⟨t', ht', hbt⟩ := k3 b hb
        exact ⟨t', by rw [List.map_cons]; exact List.mem_cons_of_mem _ ht', hbt⟩
    · rw [List.nodup_append]
      refine ⟨r5, k4, fun b hb b' hb' => ?_⟩
      rintro rfl
      obtain ⟨k, hk, hb2⟩ := k3 b hb'
      have hne : resKey σ v ≠ k := by
        rintro rfl
        exact hnd2.1 hk
      exact h.disj _ _ k.1 k.2 hne b (r4 b hb) hb2

/-- What nobody writes when all that is owned is given up. -/
def shAll (sh : Nat → Prop) (F : Bool → Nat → List Nat) (b : Nat) : Prop := sh b ∨ ∃ k i, b ∈ F k i

theorem knownA_rep : ∀ {cs : List Cell} {xs : List A} {vs : List Value} {X : List Nat}, knownA cs = some xs → RepL (one (CellRep sh w ρ)) cs vs X → (∀ b ∈ X, shAll sh F b) → ∃ ds, evAs ρ xs = some ds ∧ shAtoms (shAll sh F) w ds vs
  | [], xs, vs, X, h, hr, _ => by
    simp [knownA] at h
    subst h
    exact ⟨[], rfl, hr.1⟩
  | none :: cs, xs, vs, X, h, hr, _ => by simp [knownA] at h
  | some (x, m) :: cs, xs, vs, X, h, hr, hX => by
    simp only [knownA] at h
    obtain ⟨ys, hy, rfl⟩ := Option.map_eq_some_iff.1 h
    obtain ⟨v1, v2, F1, F2, rfl, rfl, ⟨v, rfl, d, h1, h2, h3⟩, hrest⟩ := hr
    obtain ⟨ds, hds, hat⟩ := knownA_rep hy hrest (fun b hb => hX b (List.mem_append_right _ hb))
    exact ⟨d :: ds, by simp [evAs, h1, hds], v, v2, rfl, ⟨h2, Rep.freeze (fun b hb => .inl hb) h3 (fun b hb => hX b (List.mem_append_left _ hb))⟩, hat⟩

theorem resF_rep {nv : Nat} {v : ResultVar} {es : List Em} {x : A} (h : InvG sh0 w0 G0 ρ σ a w sh F β) (hr : resF P σ nv v = some (es, x)) (he : EmOk Fn ρ nv es) :
    ∃ u d, (readRes a.tmps v).run P w = .ok u w ∧ evA ρ x = some d ∧ ValRep (shAll sh F) w d .sh u [] := by
  cases v with
  | tmp t =>
    simp only [resF, getR_eq] at hr
    split at hr
    · rename_i y m' hs
      simp only [Option.some.injEq, Prod.mk.injEq] at hr
      obtain ⟨rfl, rfl⟩ := hr
      obtain ⟨u, hu, d, h1, vs, h2, h3⟩ := h.slot t _ hs
      exact ⟨u, d, by simp [readRes, tmps_getD hu], h1, vs, h2, Rep.freeze (fun b hb => .inl hb) h3 (fun b hb => .inr ⟨_, _, hb⟩)⟩
    · rename_i b r c hs
      obtain ⟨⟨⟨y, m⟩, l⟩, hy, heq⟩ := Option.map_eq_some_iff.1 hr
      simp only [Prod.mk.injEq] at heq
      obtain ⟨rfl, rfl⟩ := heq
      obtain ⟨u, hu, _, hhdr⟩ := h.slot t _ hs
      obtain ⟨d, G, h1, ⟨vs, h2, h3⟩, h4⟩ := root_rep h (rootA_some hy) hhdr
      exact ⟨u, d, by simp [readRes, tmps_getD hu], h1, vs, h2, Rep.freeze (fun b hb => .inl hb) h3 (fun k hk => .inr ⟨_, _, h4 k hk⟩)⟩
    · rename_i r f n hs
      obtain ⟨u, hu, _, _, c0, ty0, fz0, g1, g2, rfl⟩ := h.slot t _ hs
      split at hr
      · rename_i b hb
        obtain ⟨xs, hxs, heq⟩ := Option.map_eq_some_iff.1 hr
        simp only [Prod.mk.injEq] at heq
        obtain ⟨rfl, rfl⟩ := heq
        obtain ⟨cc, ct, F', k1, k2, k3⟩ := h.box r b hb
        rw [k1] at g1
        simp only [Option.some.injEq, Obj.cells.injEq] at g1
        obtain ⟨rfl, rfl, rfl⟩ := g1
        have hin : ∀ b ∈ F', shAll sh F b := fun b hb => .inr ⟨true, r, by rw [k2]; exact List.mem_cons_of_mem _ hb⟩
        obtain ⟨G, hG, hGn, hsub⟩ := RepL.subN (R := CellRep sh w ρ) f n k3
        obtain ⟨dy, e1, e2⟩ := he.1
        obtain ⟨ds, q1, q2⟩ := knownA_rep (F := F) hxs hsub (fun b hb => hin b (hG b hb))
        unfold ev at e1
        simp only [q1, evX] at e1
        obtain ⟨p1, p2, _, _⟩ := ofCells_rep q2 e1
        exact ⟨_, dy, by simp only [readRes, tmps_getD hu]; exact Sem.run_pure .., e2, _, by rw [p2]; rfl, p1⟩
      · cases hr
    · cases hr
  | cell t ty =>
    simp only [resF, getR_eq] at hr
    split at hr
    · rename_i r f hs
      obtain ⟨u, hu, _, rfl⟩ := h.slot t _ hs
      split at hr
      · rename_i b hb
        obtain ⟨c, ct, F', k1, k2, k3⟩ := h.box r b hb
        have hsz : c.size = b.length := by
          have := RepL.len (n := 1) (fun x vs F hh => by obtain ⟨v, rfl, _⟩ := hh; rfl) k3
          simpa using this
        have hread : ∀ v, (loadVar ty ⟨β r, f, none⟩).run P w = .ok v w → (readRes a.tmps (.cell t ty)).run P w = .ok v w := by
          intro v hv
          simp only [readRes, tmps_getD hu, asAddr, Sem.run_bind, Sem.run_pure, Result.andThen_ok, hv]
        have hin : ∀ b ∈ F', shAll sh F b := fun b hb => .inr ⟨true, r, by rw [k2]; exact List.mem_cons_of_mem _ hb⟩
        split at hr
        · rename_i hagg
          split at hr
          · rename_i hc
            obtain ⟨xs, hxs, heq⟩ := Option.map_eq_some_iff.1 hr
            simp only [Prod.mk.injEq] at heq
            obtain ⟨rfl, rfl⟩ := heq
            obtain ⟨hc1, hc2⟩ := hc
            obtain ⟨G, hG, hGn, hsub⟩ := RepL.subN (R := CellRep sh w ρ) f (P.cellsOf ty) k3
            obtain ⟨dy, e1, e2⟩ := he.1
            obtain ⟨ds, q1, q2⟩ := knownA_rep (F := F) hxs hsub (fun b hb => hin b (hG b hb))
            unfold ev at e1
            simp only [q1, evX] at e1
            obtain ⟨p1, p2, _, _⟩ := ofCells_rep q2 e1
            exact ⟨_, dy, hread _ (loadVar_agg hagg k1 rfl hc2 (by omega)), e2, _, by rw [p2]; rfl, p1⟩
          · cases hr
        · split at hr
          · rename_i hna
            split at hr
            · rename_i y m' hy
              simp only [Option.some.injEq, Prod.mk.injEq] at hr
              obtain ⟨rfl, rfl⟩ := hr
              obtain ⟨v, A, X, B, hcf, rfl, ⟨dy, e1, e2, e3⟩, _⟩ := RepL.pick (y := (none : Cell)) (fun _ => rfl) k3 hy
              obtain ⟨dy', q1, q2⟩ := he.1
              unfold ev at q1
              simp only [evAs, e1, evX] at q1
              rw [if_neg (by simp [e2])] at q1
              simp only [Option.some.injEq] at q1
              subst q1
              exact ⟨v, dy, hread _ (loadVar_atom hna k1 (by simpa using hcf)), q2, valRep_atom ⟨e2, Rep.freeze (fun b hb => .inl hb) e3 (fun b hb => hin b (List.mem_append_right _ (List.mem_append_left _ hb)))⟩⟩
            · cases hr
          · cases hr
      · cases hr
    · cases hr

theorem resFAll_rep (h : InvG sh0 w0 G0 ρ σ a w sh F β) : ∀ {rv : List ResultVar} {rt : List (Ty × Md)} {nv : Nat} {es : List Em} {xs : List A} {rs : List Dy}, resFAll P σ nv rv = some (es, xs) → EmOk Fn ρ nv es →
    evAs ρ xs = some rs → rs.map (·.1) = rt.map (·.1) → (∀ t ∈ rt, t.2 = .sh) → ∃ vs, (rv.mapM (readRes a.tmps)).run P w = .ok vs w ∧ ResL (shAll sh F) w rt rs vs []
  | [], rt, nv, es, xs, rs, hr, he, hx, ht, _ => by
    simp only [resFAll, Option.some.injEq, Prod.mk.injEq] at hr
    obtain ⟨rfl, rfl⟩ := hr
    simp only [evAs, Option.some.injEq] at hx
    subst hx
    have : rt = [] := by simpa using ht.symm
    subst this
    exact ⟨[], by simp, rfl, rfl, rfl⟩
  | v :: rv, rt, nv, es, xs, rs, hr, he, hx, ht, hm => by
    simp only [resFAll] at hr
    cases h1 : resF P σ nv v with
    | none => rw [h1] at hr; cases hr
    | some p => ?_
    obtain ⟨es1, x1⟩ := p
    rw [h1] at hr
    dsimp only at hr
    cases h2 : resFAll P σ (nv + emN es1) rv with
    | none => rw [h2] at hr; cases hr
    | some q => ?_
    obtain ⟨es2, xs2⟩ := q
    rw [h2] at hr
    simp only [Option.some.injEq, Prod.mk.injEq] at hr
    obtain ⟨rfl, rfl⟩ := hr
    obtain ⟨he1, he2⟩ := he.split
    obtain ⟨d, ds, e1, e2, rfl⟩ := evAs_cons hx
    cases rt with
    | nil => simp at ht
    | cons t rt =>
      simp only [List.map_cons, List.cons.injEq] at ht
      obtain ⟨u, d', r1, r2, r3⟩ := resF_rep h h1 he1
      obtain rfl := some_eq e1 r2
      obtain ⟨vs, k1, k2⟩ := resFAll_rep h h2 he2 e2 ht.2 (fun t ht => hm t (List.mem_cons_of_mem _ ht))
      refine ⟨u :: vs, by simp [List.mapM_cons, r1, k1], d, ds, u, vs, [], [], rfl, rfl, rfl, ht.1, ?_, k2⟩
      rw [hm t (by simp)]
      exact r3

theorem results_run {fn : Func} {vs : List Value} (h : (fn.results.toList.mapM (readRes a.tmps)).run P w = .ok vs w) : (results fn a.tmps).run P w = .ok (resVal vs) w := by
  have he : results fn a.tmps = (do let vs ← fn.results.mapM (readRes a.tmps); pure (if h : vs.size = 1 then vs[0] else .tuple vs)) := rfl
  rw [he]
  generalize hrv : fn.results = rv at h ⊢
  obtain ⟨rv⟩ := rv
  rw [List.mapM_toArray]
  simp only [Sem.run_bind, Sem.run_map, h, Result.andThen_ok, Sem.run_pure]
  congr 1
  match vs with
  | [] => simp [resVal]
  | [u] => simp [resVal]
  | u :: v :: vs => simp [resVal]

/-- A FUNCTION'S CONTRACT, OUT OF ITS TEXT. -/
theorem con_of_ir {Fn' : Fns} {f : Nat} {fn : Func} {s : Sig} {ir : IR} (hm : P.follows .mixedOrders = true) (hC : ∀ f s, C f = some s → Con P Fn f s) (hf : P.funcs[f]? = some fn) (hir : fnIR P C H fn s = some ir)
    (hFn : ∀ ds rs, Fn' f ds = some rs → fnDen Fn N ir s ds = some rs) : Con P Fn' f s := by
  intro w sh args ds rs hsh hrep hds
  have hden := hFn ds rs hds
  unfold fnDen at hden
  split at hden
  case isFalse => cases hden
  rename_i hlen
  cases hd : den Fn N ir ds [] with
  | none => rw [hd] at hden; cases hden
  | some rs' => ?_
  rw [hd] at hden
  dsimp only at hden
  split at hden
  case isFalse => cases hden
  rename_i hty
  simp only [Option.some.injEq] at hden
  subst hden
  unfold fnIR at hir
  cases hb : fn.body with
  | none => rw [hb] at hir; cases hir
  | some c => ?_
  rw [hb] at hir
  dsimp only at hir
  split at hir
  case isFalse => cases hir
  rename_i hle
  refine calls_of_wp hf hb ?_
  refine sx_sound hm hC c _ _ ir ds [] _ w rs' _ hir hd (start_inv hsh hrep hle) hlen rfl ?_
  intro e Ls' hp σ' ρ' ir' a' w' hρ hk hden' hI' hv' hl'
  have key : ∀ K, K = kTop P fn s .norm → K σ' = some ir' → a'.defers = [] ∧ ∃ v, (results fn a'.tmps).run P w' = .ok v w' ∧ ∃ v_1 sh' Fr, Ending.returned v = .returned v_1 ∧ Ext w w' [] ∧ (∀ b, sh b → sh' b) ∧
      (∀ b, sh' b → b < w'.heap.size ∧ (sh b ∨ w.heap.size ≤ b)) ∧ ResRep sh' w' s.rt rs' v_1 Fr ∧ Fr.Nodup ∧ ∀ b ∈ Fr, w.heap.size ≤ b ∧ b < w'.heap.size ∧ ¬ sh' b := by
    intro K hK hk
    subst hK
    unfold kTop at hk
    dsimp only at hk
    split at hk
    case isTrue hsh1 =>
      have hm : ∀ t ∈ s.rt, t.2 = .sh := by
        intro t ht
        have := List.all_eq_true.1 hsh1 t ht
        generalize t.2 = m at this
        cases m <;> simp [Md.isSh] at this
        rfl
      cases hra : resFAll P σ' σ'.nv fn.results.toList with
      | none => rw [hra] at hk; cases hk
      | some p => ?_
      obtain ⟨es, xs⟩ := p
      rw [hra] at hk
      simp only [Option.some.injEq] at hk
      subst hk
      obtain ⟨δ, hem, hden2, _⟩ := den_emit hden'
      simp only [den] at hden2
      obtain ⟨sh', F, β, hG⟩ := hI'
      obtain ⟨vs, k1, k2⟩ := resFAll_rep (hG.more δ) hra (by rw [← hv']; exact hem) hden2 hty hm
      refine ⟨hG.defers, _, results_run k1, _, shAll sh' F, [], rfl, hG.ext, fun b hb => .inl (hG.sh_old b hb), fun b hb => ?_, ⟨vs, k2, rfl⟩, by simp, by simp⟩
      rcases hb with hb | ⟨k, i, hb⟩
      · exact ⟨hG.sh_lt b hb, (hG.sh_new b hb).imp id (fun hh => hh.elim (fun hh => by simp at hh) id)⟩
      · obtain ⟨o1, o2, o3⟩ := hG.own k i b hb
        refine ⟨o2, .inr ?_⟩
        rcases o1 with h1 | h1
        · simp at h1
        · exact h1
    split at hk
    case isFalse => cases hk
    rename_i hnd
    cases hra : resAll P σ' σ'.nv s.rt fn.results.toList with
    | none => rw [hra] at hk; cases hk
    | some p => ?_
    obtain ⟨es, xs⟩ := p
    rw [hra] at hk
    simp only [Option.some.injEq] at hk
    subst hk
    obtain ⟨δ, hem, hden2, _⟩ := den_emit hden'
    simp only [den] at hden2
    obtain ⟨sh', F, β, hG⟩ := hI'
    obtain ⟨vs, X, k1, k2, k3, k4⟩ := resAll_rep (hG.more δ) hra (by rw [← hv']; exact hem) hden2 hty hnd
    refine ⟨hG.defers, _, results_run k1, _, sh', X, rfl, hG.ext, hG.sh_old, fun b hb => ⟨hG.sh_lt b hb, (hG.sh_new b hb).imp id (fun hh => hh.elim (fun hh => by simp at hh) id)⟩, ⟨vs, k2, rfl⟩, k4, fun b hb => ?_⟩
    obtain ⟨k, _, hbt⟩ := k3 b hb
    obtain ⟨o1, o2, o3⟩ := hG.own k.1 k.2 b hbt
    refine ⟨?_, o2, o3⟩
    rcases o1 with h1 | h1
    · simp at h1
    · exact h1
  cases e with
  | norm => exact key _ rfl hk
  | ret => exact key _ rfl hk
  | exit i => cases hk

/-- A contract says of a function's meaning there alone. -/
theorem Con.of {Fn' : Fns} {f : Nat} {s : Sig} (h : Con P Fn f s) (he : ∀ ds, Fn' f ds = Fn f ds) : Con P Fn' f s :=
  fun w sh args ds rs hsh hr hd => h w sh args ds rs hsh hr (by rw [← he]; exact hd)

/-- The functions of a table, k calls deep, n rounds a loop; B: functions whose contracts are proved apart. -/
noncomputable def level (S : Nat → Option Sig) (B : Fns) (T : Nat → Option (Sig × IR)) (N : Nat) : Nat → Fns
  | 0 => fun f ds => if (S f).isSome then B f ds else none
  | k + 1 => fun f ds => if (S f).isSome then B f ds else match T f with
    | some (s, ir) => fnDen (level S B T N k) N ir s ds
    | none => none

/-- The shapes of a table. -/
def shapes (S : Nat → Option Sig) (T : Nat → Option (Sig × IR)) (f : Nat) : Option Sig := match S f with | some s => some s | none => (T f).map (·.1)

/-- EVERY FUNCTION OF A TABLE KEEPS ITS CONTRACT. -/
theorem level_con {S : Nat → Option Sig} {B : Fns} {T : Nat → Option (Sig × IR)} (hm : P.follows .mixedOrders = true) (hS : ∀ f s, S f = some s → Con P B f s)
    (hT : ∀ f s ir, T f = some (s, ir) → ∃ fn H, P.funcs[f]? = some fn ∧ fnIR P (shapes S T) H fn s = some ir) : ∀ (k : Nat) (f : Nat) (s : Sig), shapes S T f = some s → Con P (level S B T N k) f s
  | k, f, s, h => by
    unfold shapes at h
    cases hsf : S f with
    | some s' =>
      rw [hsf] at h
      simp only [Option.some.injEq] at h
      subst h
      exact (hS f s' hsf).of (fun ds => by cases k <;> simp [level, hsf])
    | none =>
      rw [hsf] at h
      dsimp only at h
      cases k with
      | zero =>
        intro w sh args ds rs _ _ h
        simp [level, hsf] at h
      | succ k =>
        obtain ⟨⟨s', ir⟩, hTf, rfl⟩ := Option.map_eq_some_iff.1 h
        obtain ⟨fn, H, h1, h2⟩ := hT f s' ir hTf
        refine con_of_ir (Fn := level S B T N k) (N := N) hm (fun f s h => level_con hm hS hT k f s h) h1 h2 (fun ds rs hd => ?_)
        simp only [level, hsf, Option.isSome_none, Bool.false_eq_true, if_false, hTf] at hd
        exact hd

end
end Go.Vm
