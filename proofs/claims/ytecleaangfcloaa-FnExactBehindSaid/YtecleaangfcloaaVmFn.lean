/- A function's contract, out of its text. Lemmas alone, no statement. -/
import Derived.Test.YtecleaangfcloaaVmSound2
namespace Go.Vm
set_option linter.unusedVariables false
set_option linter.unusedSimpArgs false
open Go.RowKit

/-- What is lent is of the right code. -/
def Sig.inB (s : Sig) (ds : List Dy) : Bool :=
  match s.lt with
  | none => true
  | some (_, q) => match ds.getLast? with
    | some d => decide (d.1 = q.ty)
    | none => false

/-- What a function's text answers. -/
noncomputable def fnDen (Fn : Fns) (N : Nat) (ir : IR) (s : Sig) (ds : List Dy) : Option (List Dy) :=
  if ds.length = s.nin ∧ s.inB ds = true then
    match den Fn N ir ds [] with
    | some rs => if rs.map (·.1) = s.tys then some rs else none
    | none => none
  else none

section
variable {P : Program} {C : Nat → Option Sig} {Fn : Fns} {N : Nat} {H : Hints} {sh0 : Nat → Prop} {w0 : World} {G0 : Frm} {ρ δ : List Dy} {σ τ : Sg} {a : Act} {w w' : World}
  {sh sh' : Nat → Prop} {F : Bool → Nat → List Nat} {β : Nat → Nat} {Q : Exit → Act → World → Prop}

theorem ptrs_caps {j : Nat} : ∀ {ds : List Dy} {us : List Value} {i : Nat}, PtrsRep sh w ds us → (∀ k d, ds[k]? = some d → ρ[i + k]? = some d) → CapsRep sh w ρ β ((List.range' i ds.length).map fun i => .psh (.var i)) us
  | [], us, i, h, _ => h
  | d :: ds, us, i, h, hρ => by
    obtain ⟨u, us', rfl, h1, h2⟩ := h
    rw [List.length_cons, List.range'_succ, List.map_cons]
    refine ⟨u, us', rfl, ⟨d, by simpa [evA] using hρ 0 d rfl, h1⟩, ptrs_caps (j := j) h2 (fun k e hk => ?_)⟩
    have := hρ (k + 1) e (by simpa using hk)
    rw [← this]
    congr 1
    omega

theorem startS_len : ∀ {pk : List PK} {j : Nat}, (startS j pk).length = pk.length
  | [], _ => rfl
  | .val :: pk, j => by simp [startS, startS_len (pk := pk)]
  | .rd :: pk, j => by simp [startS, startS_len (pk := pk)]
  | .nil :: pk, j => by simp [startS, startS_len (pk := pk)]
  | .fn _ _ :: pk, j => by simp [startS, startS_len (pk := pk)]

theorem startS_root : ∀ {pk : List PK} {j i : Nat} {s : SV}, (startS j pk)[i]? = some s → rootOk τ s
  | [], _, _, _, h => by simp [startS] at h
  | .val :: pk, j, 0, s, h => by simp [startS] at h; subst h; trivial
  | .rd :: pk, j, 0, s, h => by simp [startS] at h; subst h; trivial
  | .nil :: pk, j, 0, s, h => by simp [startS] at h; subst h; trivial
  | .nil :: pk, j, i + 1, s, h => startS_root (pk := pk) (j := j) (i := i) (by simpa [startS] using h)
  | .fn _ _ :: pk, j, 0, s, h => by simp [startS] at h; subst h; trivial
  | .val :: pk, j, i + 1, s, h => startS_root (pk := pk) (j := j + 1) (i := i) (by simpa [startS] using h)
  | .rd :: pk, j, i + 1, s, h => startS_root (pk := pk) (j := j + 1) (i := i) (by simpa [startS] using h)
  | .fn _ n :: pk, j, i + 1, s, h => startS_root (pk := pk) (j := j + n) (i := i) (by simpa [startS] using h)

theorem ArgsRep.nin : ∀ {pk : List PK} {ds : List Dy} {vs : List Value}, ArgsRep sh w pk ds vs → vs.length = pk.length
  | [], ds, vs, h => by obtain ⟨_, rfl⟩ := h; rfl
  | k :: pk, ds, vs, h => by
    obtain ⟨ds1, ds2, v, us, rfl, rfl, h1, h2⟩ := h
    simp [ArgsRep.nin h2]

theorem ArgRep.len {k : PK} {ds : List Dy} {v : Value} (h : ArgRep sh w k ds v) : ds.length = k.n := by
  cases k with
  | val => obtain ⟨d, rfl, _⟩ := h; rfl
  | rd => obtain ⟨d, rfl, _⟩ := h; rfl
  | nil => rw [h.1]; rfl
  | fn g n => exact h.1

theorem startS_rep {tm : Array Value} : ∀ {pk : List PK} {ds : List Dy} {vs : List Value} {j : Nat}, ArgsRep sh w pk ds vs → (∀ k d, ds[k]? = some d → ρ[j + k]? = some d) →
    ∀ (i : Nat) (s : SV), (startS j pk)[i]? = some s → ∃ v, vs[i]? = some v ∧ SVRep sh w ρ β tm F s v []
  | [], ds, vs, j, h, hρ, i, s, hi => by simp [startS] at hi
  | k :: pk, ds, vs, j, h, hρ, i, s, hi => by
    obtain ⟨ds1, ds2, v, us, rfl, rfl, h1, h2⟩ := h
    have hn := h1.len
    have hrest : ∀ k' d, ds2[k']? = some d → ρ[j + k.n + k']? = some d := fun k' d hd => by
      have := hρ (k.n + k') d (by rw [List.getElem?_append_right (by omega), hn]; simpa using hd)
      rwa [← Nat.add_assoc] at this
    have hfirst : ∀ k' d, ds1[k']? = some d → ρ[j + k']? = some d := fun k' d hd => hρ k' d (by rw [List.getElem?_append_left (List.getElem?_eq_some_iff.1 hd).1]; exact hd)
    cases i with
    | succ i =>
      have hi' : (startS (j + k.n) pk)[i]? = some s := by cases k <;> simpa [startS, PK.n] using hi
      obtain ⟨v', e1, e2⟩ := startS_rep (tm := tm) h2 hrest i s hi'
      exact ⟨v', by simpa using e1, e2⟩
    | zero =>
      refine ⟨v, rfl, ?_⟩
      cases k with
      | val =>
        simp [startS] at hi
        subst hi
        obtain ⟨d, rfl, hd⟩ := h1
        exact ⟨d, by simpa [evA] using hfirst 0 d rfl, hd⟩
      | rd =>
        simp [startS] at hi
        subst hi
        obtain ⟨d, rfl, b, o, c, ty, fz, rfl, hd⟩ := h1
        exact ⟨rfl, d, b, o, c, ty, fz, by simpa [evA] using hfirst 0 d rfl, rfl, hd⟩
      | fn g n =>
        simp [startS] at hi
        subst hi
        obtain ⟨rfl, us, rfl, hu⟩ := h1
        exact ⟨rfl, us, rfl, ptrs_caps (j := j) hu hfirst⟩
      | nil =>
        simp [startS] at hi
        subst hi
        rfl

theorem startSg_none {n : Nat} {s : Sig} {kb : List (Nat × Nat)} (hl : s.lt = none) : startSg n s kb = ⟨startS 0 s.pk ++ List.replicate (n - s.pk.length) SV.undef, List.replicate n none, [], s.nin0, 0, [], []⟩ := by
  unfold startSg; rw [hl]

theorem startSg_row {n p : Nat} {τ : Ty} {s : Sig} {kb : List (Nat × Nat)} (hl : s.lt = some (p, .row τ)) : startSg n s kb =
    ⟨ins p (SV.at (A.var s.nin0) (Md.deep τ)) (startS 0 s.pk) ++ List.replicate (n - (s.pk.length + 1)) SV.undef, List.replicate n none, [], s.nin0 + 1, 0, [p], kb⟩ := by
  unfold startSg; rw [hl]

theorem startSg_box {n p : Nat} {τ : Ty} {m m' : Md} {s : Sig} {kb : List (Nat × Nat)} (hl : s.lt = some (p, .box τ m m')) : startSg n s kb =
    ⟨ins p (SV.ptr p 0) (startS 0 s.pk) ++ List.replicate (n - (s.pk.length + 1)) SV.undef, setR (List.replicate n none) p (some (boxCells τ m s.nin0)), [], s.nin0 + 1, 0, [p], []⟩ := by
  unfold startSg; rw [hl]

theorem startSg_mov {n p : Nat} {τ : Ty} {m : Md} {s : Sig} {kb : List (Nat × Nat)} (hl : s.lt = some (p, .mov τ m)) : startSg n s kb =
    ⟨ins p (SV.at (A.var s.nin0) m) (startS 0 s.pk) ++ List.replicate (n - (s.pk.length + 1)) SV.undef, List.replicate n none, [], s.nin0 + 1, 0, [], [(movK, 0)]⟩ := by
  unfold startSg; rw [hl]

theorem startSg_nv {n : Nat} {s : Sig} {kb : List (Nat × Nat)} : (startSg n s kb).nv = s.nin ∧ (startSg n s kb).nl = 0 := by
  unfold Sig.nin
  cases hl : s.lt with
  | none => rw [startSg_none hl]; exact ⟨rfl, rfl⟩
  | some pq =>
    obtain ⟨p, q⟩ := pq
    cases q with
    | row τ => rw [startSg_row hl]; exact ⟨rfl, rfl⟩
    | box τ m m' => rw [startSg_box hl]; exact ⟨rfl, rfl⟩
    | mov τ m => rw [startSg_mov hl]; exact ⟨rfl, rfl⟩

theorem ArgsRep.names : ∀ {pk : List PK} {ds : List Dy} {vs : List Value}, ArgsRep sh w pk ds vs → ds.length = pk.foldr (fun k n => k.n + n) 0
  | [], ds, vs, h => by obtain ⟨rfl, _⟩ := h; rfl
  | k :: pk, ds, vs, h => by
    obtain ⟨ds1, ds2, v, us, rfl, rfl, h1, h2⟩ := h
    simp [ArgsRep.names h2, h1.len]

theorem ins_get {α : Type} {l : List α} {p i : Nat} {x : α} (hp : p ≤ l.length) : (ins p x l)[i]? = if i < p then l[i]? else if i = p then some x else l[i - 1]? := by
  unfold ins
  have hl : (l.take p).length = p := by rw [List.length_take]; omega
  by_cases h : i < p
  · rw [if_pos h, List.getElem?_append_left (by omega), List.getElem?_take, if_pos h]
  · rw [if_neg h, List.getElem?_append_right (by omega), hl]
    by_cases h2 : i = p
    · subst h2; simp
    · rw [if_neg h2, show i - p = (i - p - 1) + 1 by omega, List.getElem?_cons_succ, List.getElem?_drop]
      congr 1
      omega

theorem ins_len {α : Type} {l : List α} {p : Nat} {x : α} (hp : p ≤ l.length) : (ins p x l).length = l.length + 1 := by
  unfold ins
  simp only [List.length_append, List.length_take, List.length_cons, List.length_drop]
  omega

/-- The slots that nothing is lent in. -/
theorem startL_slot {args : Array Value} {ds0 : List Dy} {n p : Nat} {s : Sig} {x0 : SV} (hr : ArgsRep sh w s.pk ds0 (del p args.toList)) (hp : p < args.size) (hn : s.pk.length + 1 ≤ n) (hρ : ∀ (k : Nat) (d : Dy), ds0[k]? = some d → ρ[k]? = some d) :
    p ≤ s.pk.length ∧ (ins p x0 (startS 0 s.pk) ++ List.replicate (n - (s.pk.length + 1)) SV.undef).length = n ∧ args.size = s.pk.length + 1 ∧
    (ins p x0 (startS 0 s.pk) ++ List.replicate (n - (s.pk.length + 1)) SV.undef)[p]? = some x0 ∧
    ∀ (i : Nat) (t : SV), (ins p x0 (startS 0 s.pk) ++ List.replicate (n - (s.pk.length + 1)) SV.undef)[i]? = some t → i ≠ p →
      (∃ v, (args ++ Array.replicate (n - args.size) undef)[i]? = some v ∧ SVRep sh w ρ β (args ++ Array.replicate (n - args.size) undef) F t v []) ∧ ∀ τ, rootOk τ t := by
  have hlen : args.size = s.pk.length + 1 := by
    have h1 := hr.nin
    have h2 := del_len (l := args.toList) (p := p) (by simpa using hp)
    simp only [Array.length_toList] at h2
    omega
  have hps : p ≤ (startS 0 s.pk).length := by rw [startS_len]; omega
  have hil : (ins p x0 (startS 0 s.pk)).length = s.pk.length + 1 := by rw [ins_len hps, startS_len]
  refine ⟨by omega, by simp [hil]; omega, hlen, ?_, fun i t hi hip => ?_⟩
  · rw [List.getElem?_append_left (by omega), ins_get hps, if_neg (by omega), if_pos rfl]
  · by_cases hia : i < s.pk.length + 1
    · rw [List.getElem?_append_left (by omega), ins_get hps] at hi
      have hget : ∀ j, (startS 0 s.pk)[j]? = some t → (∃ v, (del p args.toList)[j]? = some v ∧ SVRep sh w ρ β (args ++ Array.replicate (n - args.size) undef) F t v []) ∧ ∀ τ, rootOk τ t :=
        fun j hj => ⟨startS_rep hr (fun k d hd => by rw [Nat.zero_add]; exact hρ k d hd) j t hj, fun τ => startS_root hj⟩
      have hpl : p ≤ args.toList.length := by simp; omega
      split at hi
      · rename_i hlt
        obtain ⟨⟨v, hv, hrep⟩, hro⟩ := hget i hi
        rw [del_get hpl, if_pos hlt] at hv
        refine ⟨⟨v, ?_, hrep⟩, hro⟩
        rw [Array.getElem?_append_left (by omega)]
        simpa using hv
      · obtain ⟨⟨v, hv, hrep⟩, hro⟩ := hget (i - 1) (by first | exact hi | (rw [if_neg hip] at hi; exact hi))
        rw [del_get hpl, if_neg (by omega), show i - 1 + 1 = i by omega] at hv
        refine ⟨⟨v, ?_, hrep⟩, hro⟩
        rw [Array.getElem?_append_left (by omega)]
        simpa using hv
    · rw [List.getElem?_append_right (by omega), hil, List.getElem?_replicate] at hi
      split at hi
      · simp only [Option.some.injEq] at hi
        subst hi
        refine ⟨⟨undef, ?_, rfl⟩, fun _ => trivial⟩
        rw [Array.getElem?_append_right (by omega), Array.getElem?_replicate, if_pos (by omega)]
      · cases hi

theorem tmps_at {args : Array Value} {n p : Nat} {v : Value} (hv : args.toList[p]? = some v) : (args ++ Array.replicate (n - args.size) undef)[p]? = some v ∧ args.getD p undef = v ∧ p < args.size := by
  have hp : p < args.size := by simpa using (List.getElem?_eq_some_iff.1 hv).1
  have hv' : args[p]? = some v := by simpa using hv
  refine ⟨by rw [Array.getElem?_append_left hp]; exact hv', ?_, hp⟩
  rw [Array.getD_eq_getD_getElem?, hv']; rfl

theorem one_own {k : Bool} {p : Nat} {L : List Nat} : ∀ (l : Bool) (i : Nat), ∀ b ∈ setF (fun _ _ => []) k p L l i, l = k ∧ i = p ∧ b ∈ L := by
  intro l i b hb
  unfold setF at hb
  split at hb
  · rename_i h; exact ⟨h.1, h.2, hb⟩
  · simp at hb

/-- The start, where a row is lent. -/
theorem start_row {args : Array Value} {ds ds0 : List Dy} {d : Dy} {n p : Nat} {τ : Ty} {v : Value} {s : Sig} {kb : List (Nat × Nat)} {L : List Nat} (hsh : ∀ b, sh b → b < w.heap.size) (hl : s.lt = some (p, .row τ)) (hds : ds = ds0 ++ [d]) (hv : args.toList[p]? = some v)
    (hr : ArgsRep sh w s.pk ds0 (del p args.toList)) (hq : LentRep (.row τ) false sh w d v L) (hL : L.Nodup) (hLo : ∀ b ∈ L, b < w.heap.size ∧ ¬ sh b) (hn : s.np ≤ n) :
    Inv sh w ⟨L, fun i => args.getD i undef⟩ ds (startSg n s kb) { tmps := args ++ Array.replicate (n - args.size) undef, defers := [] } w := by
  obtain ⟨hv1, hv2, hp⟩ := tmps_at (n := n) hv
  have hn' : s.pk.length + 1 ≤ n := by unfold Sig.np at hn; rw [hl] at hn; exact hn
  have hρ : ∀ (k : Nat) (d' : Dy), ds0[k]? = some d' → ds[k]? = some d' := fun k d' hk => by rw [hds, List.getElem?_append_left (List.getElem?_eq_some_iff.1 hk).1]; exact hk
  obtain ⟨h1, h2, h3, h4, h5⟩ := startL_slot (ρ := ds) (β := fun _ => 0) (F := setF (fun _ _ => []) false p L) (n := n) (x0 := SV.at (A.var s.nin0) (Md.deep τ)) hr hp hn' hρ
  have hnm : s.nin0 = ds0.length := hr.names.symm
  refine ⟨sh, setF (fun _ _ => []) false p L, fun _ => 0, ?_⟩
  rw [startSg_row hl]
  exact {
    defers := rfl
    size := by rw [h2]; simp; omega
    ext := Ext.refl _ _
    sh_old := fun _ h => h
    sh_lt := hsh
    sh_new := fun _ h => .inl h
    slot := fun i t hi => by
      by_cases hip : i = p
      · subst hip
        rw [h4] at hi
        simp only [Option.some.injEq] at hi
        subst hi
        refine ⟨v, hv1, d, ?_, ?_⟩
        · simp only [evA]
          rw [hds, hnm, List.getElem?_append_right (Nat.le_refl _)]
          simp
        · rw [setF_same]; exact hq
      · obtain ⟨⟨u, hu, hrep⟩, _⟩ := h5 i t hi hip
        exact ⟨u, hu, by rw [setF_ne _ _ _ _ (by simp [hip])]; exact hrep⟩
    noslot := fun i hi => by
      have hip : i ≠ p := by rintro rfl; rw [h4] at hi; cases hi
      rw [setF_ne _ _ _ _ (by simp [hip])]
    box := fun r cs hr => by
      obtain ⟨q1, q2⟩ := List.getElem?_eq_some_iff.1 hr
      simp at q2
    nobox := fun r _ => by rw [setF_ne _ _ _ _ (by simp)]
    nodup := fun k i => by
      unfold setF
      split
      · exact hL
      · simp
    own := fun k i b hb => by
      obtain ⟨_, _, hb⟩ := one_own k i b hb
      exact ⟨.inl hb, hLo b hb⟩
    disj := fun k i l j hne b hb hb2 => by
      obtain ⟨rfl, rfl, _⟩ := one_own k i b hb
      obtain ⟨rfl, rfl, _⟩ := one_own l j b hb2
      exact hne rfl
    dec := fun _ _ h => by simp at h
    keep := fun i hi => by
      simp only [List.mem_singleton] at hi
      subst hi
      show _ = some (args.getD i undef)
      rw [hv1, hv2]
    keepB := fun r q hq cs hr => by
      obtain ⟨q1, q2⟩ := List.getElem?_eq_some_iff.1 hr
      simp at q2
    refs := fun i t hi => by
      by_cases hip : i = p
      · subst hip
        rw [h4] at hi
        simp only [Option.some.injEq] at hi
        subst hi
        trivial
      · exact (h5 i t hi hip).2 _ }

/-- The start, where something is handed over. -/
theorem start_mov {args : Array Value} {ds ds0 : List Dy} {d : Dy} {n p : Nat} {τ : Ty} {md : Md} {v : Value} {s : Sig} {kb : List (Nat × Nat)} {L : List Nat} (hsh : ∀ b, sh b → b < w.heap.size) (hl : s.lt = some (p, .mov τ md)) (hds : ds = ds0 ++ [d]) (hv : args.toList[p]? = some v)
    (hr : ArgsRep sh w s.pk ds0 (del p args.toList)) (hq : LentRep (.mov τ md) false sh w d v L) (hL : L.Nodup) (hLo : ∀ b ∈ L, b < w.heap.size ∧ ¬ sh b) (hn : s.np ≤ n) :
    Inv sh w ⟨L, fun i => args.getD i undef⟩ ds (startSg n s kb) { tmps := args ++ Array.replicate (n - args.size) undef, defers := [] } w := by
  obtain ⟨hv1, hv2, hp⟩ := tmps_at (n := n) hv
  have hn' : s.pk.length + 1 ≤ n := by unfold Sig.np at hn; rw [hl] at hn; exact hn
  have hρ : ∀ (k : Nat) (d' : Dy), ds0[k]? = some d' → ds[k]? = some d' := fun k d' hk => by rw [hds, List.getElem?_append_left (List.getElem?_eq_some_iff.1 hk).1]; exact hk
  obtain ⟨h1, h2, h3, h4, h5⟩ := startL_slot (ρ := ds) (β := fun _ => 0) (F := setF (fun _ _ => []) false p L) (n := n) (x0 := SV.at (A.var s.nin0) md) hr hp hn' hρ
  have hnm : s.nin0 = ds0.length := hr.names.symm
  refine ⟨sh, setF (fun _ _ => []) false p L, fun _ => 0, ?_⟩
  rw [startSg_mov hl]
  exact {
    defers := rfl
    size := by rw [h2]; simp; omega
    ext := Ext.refl _ _
    sh_old := fun _ h => h
    sh_lt := hsh
    sh_new := fun _ h => .inl h
    slot := fun i t hi => by
      by_cases hip : i = p
      · subst hip
        rw [h4] at hi
        simp only [Option.some.injEq] at hi
        subst hi
        refine ⟨v, hv1, d, ?_, ?_⟩
        · simp only [evA]
          rw [hds, hnm, List.getElem?_append_right (Nat.le_refl _)]
          simp
        · rw [setF_same]; exact hq
      · obtain ⟨⟨u, hu, hrep⟩, _⟩ := h5 i t hi hip
        exact ⟨u, hu, by rw [setF_ne _ _ _ _ (by simp [hip])]; exact hrep⟩
    noslot := fun i hi => by
      have hip : i ≠ p := by rintro rfl; rw [h4] at hi; cases hi
      rw [setF_ne _ _ _ _ (by simp [hip])]
    box := fun r cs hr => by
      obtain ⟨q1, q2⟩ := List.getElem?_eq_some_iff.1 hr
      simp at q2
    nobox := fun r _ => by rw [setF_ne _ _ _ _ (by simp)]
    nodup := fun k i => by
      unfold setF
      split
      · exact hL
      · simp
    own := fun k i b hb => by
      obtain ⟨_, _, hb⟩ := one_own k i b hb
      exact ⟨.inl hb, hLo b hb⟩
    disj := fun k i l j hne b hb hb2 => by
      obtain ⟨rfl, rfl, _⟩ := one_own k i b hb
      obtain ⟨rfl, rfl, _⟩ := one_own l j b hb2
      exact hne rfl
    dec := fun _ _ h => by simp at h
    keep := fun i hi => by simp at hi
    keepB := fun r q hq cs hr => by
      obtain ⟨q1, q2⟩ := List.getElem?_eq_some_iff.1 hr
      simp at q2
    refs := fun i t hi => by
      by_cases hip : i = p
      · subst hip
        rw [h4] at hi
        simp only [Option.some.injEq] at hi
        subst hi
        trivial
      · exact (h5 i t hi hip).2 _ }

/-- The start, where a variable is lent. -/
theorem start_box {args : Array Value} {ds ds0 : List Dy} {d : Dy} {n p : Nat} {τ : Ty} {m m' : Md} {v : Value} {s : Sig} {kb : List (Nat × Nat)} {L : List Nat} (hsh : ∀ b, sh b → b < w.heap.size) (hl : s.lt = some (p, .box τ m m')) (hds : ds = ds0 ++ [d]) (hv : args.toList[p]? = some v)
    (hr : ArgsRep sh w s.pk ds0 (del p args.toList)) (hq : LentRep (.box τ m m') false sh w d v L) (hty : d.1 = τ) (hfl : τ.isAgg = true → τ.flat = true) (hL : L.Nodup) (hLo : ∀ b ∈ L, b < w.heap.size ∧ ¬ sh b) (hn : s.np ≤ n) :
    Inv sh w ⟨L, fun i => args.getD i undef⟩ ds (startSg n s kb) { tmps := args ++ Array.replicate (n - args.size) undef, defers := [] } w := by
  obtain ⟨hv1, hv2, hp⟩ := tmps_at (n := n) hv
  have hn' : s.pk.length + 1 ≤ n := by unfold Sig.np at hn; rw [hl] at hn; exact hn
  have hρ : ∀ (k : Nat) (d' : Dy), ds0[k]? = some d' → ds[k]? = some d' := fun k d' hk => by rw [hds, List.getElem?_append_left (List.getElem?_eq_some_iff.1 hk).1]; exact hk
  obtain ⟨b, c, ty, K, hvb, rfl, hw, hrep⟩ := hq
  have hrep : Rep sh w d.1 m d.2 c.toList K := hrep
  obtain ⟨h1, h2, h3, h4, h5⟩ := startL_slot (ρ := ds) (β := fun _ => b) (F := setF (fun _ _ => []) true p (b :: K)) (n := n) (x0 := SV.ptr p 0) hr hp hn' hρ
  have hnm : s.nin0 = ds0.length := hr.names.symm
  have hd : evA ds (.var s.nin0) = some d := by
    simp only [evA]
    rw [hds, hnm, List.getElem?_append_right (Nat.le_refl _)]
    simp
  have hboxes : ∀ r cs, (setR (List.replicate n none) p (some (boxCells τ m s.nin0)))[r]? = some (some cs) → r = p ∧ cs = boxCells τ m s.nin0 := by
    intro r cs hr
    rw [setR_eq] at hr
    by_cases hrp : p = r
    · subst hrp
      rw [List.getElem?_set_self (by simp; omega)] at hr
      simp only [Option.some.injEq] at hr
      exact ⟨rfl, hr.symm⟩
    · rw [List.getElem?_set_ne hrp] at hr
      obtain ⟨q1, q2⟩ := List.getElem?_eq_some_iff.1 hr
      simp at q2
  have hcells : RepL (one (CellRep sh w ds)) (boxCells τ m s.nin0) c.toList K := by
    unfold boxCells
    split
    · rename_i hag
      have := flat_cells (b := .var s.nin0) (d := d) (off := 0) (by rw [hty]; exact hfl hag) hrep hd (fun c => by simp [Dy.cell, hty, hag])
      rwa [hty] at this
    · rename_i hag
      have hag : d.1.isAgg = false := by rw [hty]; simpa using hag
      obtain ⟨u, hu⟩ := hrep.single hag
      rw [hu] at hrep ⊢
      exact ⟨[u], [], K, [], rfl, by simp, ⟨u, rfl, d, hd, hag, hrep⟩, rfl, rfl⟩
  refine ⟨sh, setF (fun _ _ => []) true p (b :: K), fun _ => b, ?_⟩
  rw [startSg_box hl]
  exact {
    defers := rfl
    size := by rw [h2]; simp; omega
    ext := Ext.refl _ _
    sh_old := fun _ h => h
    sh_lt := hsh
    sh_new := fun _ h => .inl h
    slot := fun i t hi => by
      rw [setF_ne _ _ _ _ (by simp)]
      by_cases hip : i = p
      · subst hip
        rw [h4] at hi
        simp only [Option.some.injEq] at hi
        subst hi
        exact ⟨v, hv1, rfl, hvb⟩
      · exact (h5 i t hi hip).1
    noslot := fun i hi => by rw [setF_ne _ _ _ _ (by simp)]
    box := fun r cs hr => by
      obtain ⟨rfl, rfl⟩ := hboxes r cs hr
      exact ⟨c, ty, K, hw, setF_same _ _ _ _, hcells⟩
    nobox := fun r hr => by
      have hrp : r ≠ p := by
        rintro rfl
        refine hr (boxCells τ m s.nin0) ?_
        rw [setR_eq, List.getElem?_set_self (by simp; omega)]
      rw [setF_ne _ _ _ _ (by simp [hrp])]
    nodup := fun k i => by
      unfold setF
      split
      · exact hL
      · simp
    own := fun k i z hz => by
      obtain ⟨_, _, hz⟩ := one_own k i z hz
      exact ⟨.inl hz, hLo z hz⟩
    disj := fun k i l j hne z hz hz2 => by
      obtain ⟨rfl, rfl, _⟩ := one_own k i z hz
      obtain ⟨rfl, rfl, _⟩ := one_own l j z hz2
      exact hne rfl
    dec := fun _ _ h => by simp at h
    keep := fun i hi => by
      simp only [List.mem_singleton] at hi
      subst hi
      show _ = some (args.getD i undef)
      rw [hv1, hv2]
    keepB := fun r q hq cs hr => by simp at hq
    refs := fun i t hi => by
      by_cases hip : i = p
      · subst hip
        rw [h4] at hi
        simp only [Option.some.injEq] at hi
        subst hi
        trivial
      · exact (h5 i t hi hip).2 _ }

theorem start_inv {args : Array Value} {ds : List Dy} {n : Nat} {s : Sig} {kb : List (Nat × Nat)} (hlt : s.lt = none) (hsh : ∀ b, sh b → b < w.heap.size) (hr : ArgsRep sh w s.pk ds args.toList) (hn : s.pk.length ≤ n) :
    Inv sh w ⟨[], fun i => args.getD i undef⟩ ds (startSg n s kb) { tmps := args ++ Array.replicate (n - args.size) undef, defers := [] } w := by
  rw [startSg_none hlt]
  have hl := hr.nin
  have hl' : args.size = s.pk.length := by simpa using hl
  have hsl : (startS 0 s.pk ++ List.replicate (n - s.pk.length) SV.undef).length = n := by simp [startS_len]; omega
  refine ⟨sh, fun _ _ => [], fun _ => 0, ?_⟩
  exact {
    defers := rfl
    size := by rw [hsl]; simp; omega
    ext := Ext.refl _ _
    sh_old := fun _ h => h
    sh_lt := hsh
    sh_new := fun _ h => .inl h
    slot := fun i t hi => by
      by_cases hia : i < s.pk.length
      · rw [List.getElem?_append_left (by rw [startS_len]; exact hia)] at hi
        obtain ⟨v, hv, hrep⟩ := startS_rep (ρ := ds) (β := fun _ => 0) (F := fun _ _ => []) (tm := args ++ Array.replicate (n - args.size) undef) hr (fun k d hd => by simpa using hd) i t hi
        refine ⟨v, ?_, hrep⟩
        rw [Array.getElem?_append_left (by omega)]
        simpa using hv
      · rw [List.getElem?_append_right (by rw [startS_len]; omega), startS_len, List.getElem?_replicate] at hi
        split at hi
        · simp only [Option.some.injEq] at hi
          subst hi
          refine ⟨undef, ?_, rfl⟩
          rw [Array.getElem?_append_right (by omega), Array.getElem?_replicate, if_pos (by omega)]
        · cases hi
    noslot := fun _ _ => rfl
    box := fun r cs hr => by
      have := List.getElem?_eq_some_iff.1 hr
      obtain ⟨h1, h2⟩ := this
      simp at h2
    nobox := fun _ _ => rfl
    nodup := fun _ _ => by simp
    own := fun _ _ b hb => by simp at hb
    disj := fun _ _ _ _ _ b hb => by simp at hb
    dec := fun _ _ h => by simp at h
    keep := fun i hi => by simp at hi
    keepB := fun r p hp => by simp at hp
    refs := fun i t hi => by
      by_cases hia : i < s.pk.length
      · rw [List.getElem?_append_left (by rw [startS_len]; exact hia)] at hi
        exact startS_root hi
      · rw [List.getElem?_append_right (by rw [startS_len]; omega), startS_len, List.getElem?_replicate] at hi
        split at hi
        · simp only [Option.some.injEq] at hi
          subst hi
          trivial
        · cases hi }

/-- The model's way of reading one result. -/
def readRes (tmps : Array Value) : ResultVar → Sem Value
  | .tmp t => pure (tmps.getD t undef)
  | .cell a t => do loadVar t (← asAddr (tmps.getD a undef))

theorem tmps_getD {i : Nat} {v : Value} (h : a.tmps[i]? = some v) : a.tmps.getD i undef = v := by simp [Array.getD_eq_getD_getElem?, h]

theorem RepL.subN {α : Type} {R : α → Value → List Nat → Prop} {xs : List α} {vs : List Value} {F : List Nat} (f n : Nat) (h : RepL (one R) xs vs F) : ∃ G, (∀ b ∈ G, b ∈ F) ∧ (F.Nodup → G.Nodup) ∧ RepL (one R) ((xs.drop f).take n) ((vs.drop f).take n) G := by
  obtain ⟨A, B, rfl, _, r2⟩ := RepL.cut f h
  obtain ⟨B1, B2, rfl, s1, _⟩ := RepL.cut n r2
  refine ⟨B1, fun b hb => List.mem_append_right _ (List.mem_append_left _ hb), fun hn => ?_, s1⟩
  exact (List.nodup_append.1 (List.nodup_append.1 hn).2.1).1

theorem resOne_rep {nv : Nat} {m : Md} {v : ResultVar} {es : List Em} {x : A} (h : InvG sh0 w0 G0 ρ σ a w sh F β) (hr : resOne P σ nv m v = some (es, x)) (he : EmOk Fn ρ nv es) :
    ∃ u d X, (readRes a.tmps v).run P w = .ok u w ∧ evA ρ x = some d ∧ ValRep sh w d m u X ∧ (∀ b ∈ X, b ∈ F (resKey σ v).1 (resKey σ v).2) ∧ X.Nodup := by
  cases v with
  | tmp t =>
    simp only [resOne, getR_eq] at hr
    split at hr
    · rename_i y m' hs
      have hkey : resKey σ (.tmp t) = (false, t) := by simp [resKey, getR_eq, hs]
      rw [hkey]
      split at hr
      · rename_i hm
        simp only [Option.some.injEq, Prod.mk.injEq] at hr
        obtain ⟨rfl, rfl⟩ := hr
        obtain ⟨u, hu, d, h1, vs, h2, h3⟩ := h.slot t _ hs
        obtain ⟨X, hX, h4⟩ := coeR_rep hm h1 h3
        refine ⟨u, d, X, by simp [readRes, tmps_getD hu], h1, ⟨vs, h2, h4⟩, fun b hb => ?_, ?_⟩
        · rcases hX with rfl | rfl
          · exact hb
          · simp at hb
        · rcases hX with rfl | rfl
          · exact h.nodup _ _
          · simp
      · cases hr
    · rename_i r c ln hs
      have hkey : resKey σ (.tmp t) = (true, r) := by simp [resKey, getR_eq, hs]
      rw [hkey]
      obtain ⟨u, hu, _, ⟨_, hcell⟩, _⟩ := h.slot t _ hs
      split at hr
      · rename_i b hb
        obtain ⟨cc, ct, F', k1, k2, k3⟩ := h.box r b hb
        have hnd := h.nodup true r
        rw [k2] at hnd
        have hnd' := (List.nodup_cons.1 hnd).2
        split at hr
        · rename_i y m' hy
          split at hr
          · rename_i hm
            simp only [Option.some.injEq, Prod.mk.injEq] at hr
            obtain ⟨rfl, rfl⟩ := hr
            obtain ⟨v, A, X, B, hcf, rfl, ⟨dy, e1, e2, e3⟩, _⟩ := RepL.pick (y := (none : Cell)) (fun _ => rfl) k3 hy
            have huv : u = v := by
              simp only [World.cell?, k1] at hcell
              have hcf : cc[c]? = some v := by simpa using hcf
              rw [hcf] at hcell
              simpa using hcell.symm
            subst huv
            obtain ⟨X', hX', h4⟩ := coeR_rep hm e1 e3
            refine ⟨u, dy, X', by simp [readRes, tmps_getD hu], e1, valRep_atom ⟨e2, h4⟩, fun b hb => ?_, ?_⟩
            · rw [k2]
              rcases hX' with rfl | rfl
              · exact List.mem_cons_of_mem _ (List.mem_append_right _ (List.mem_append_left _ hb))
              · simp at hb
            · rcases hX' with rfl | rfl
              · exact (List.nodup_append.1 (List.nodup_append.1 hnd').2.1).1
              · simp
          · cases hr
        · cases hr
      · cases hr
    · rename_i r f n hs
      have hkey : resKey σ (.tmp t) = (true, r) := by simp [resKey, getR_eq, hs]
      rw [hkey]
      obtain ⟨u, hu, _, _, c0, ty0, fz0, g1, g2, rfl⟩ := h.slot t _ hs
      split at hr
      · rename_i b hb
        obtain ⟨xs, hxs, heq⟩ := Option.map_eq_some_iff.1 hr
        simp only [Prod.mk.injEq] at heq
        obtain ⟨rfl, rfl⟩ := heq
        obtain ⟨cc, ct, F', k1, k2, k3⟩ := h.box r b hb
        have hnd := h.nodup true r
        rw [k2] at hnd
        have hnd' := (List.nodup_cons.1 hnd).2
        rw [k1] at g1
        simp only [Option.some.injEq, Obj.cells.injEq] at g1
        obtain ⟨rfl, rfl, rfl⟩ := g1
        obtain ⟨G, hG, hGn, hsub⟩ := RepL.subN (R := CellRep sh w ρ) f n k3
        obtain ⟨dy, e1, e2⟩ := he.1
        unfold ev at e1
        cases hds : evAs ρ xs with
        | none => simp only [hds] at e1; cases e1
        | some ds =>
          simp only [hds, evX] at e1
          obtain ⟨X', q1, q2, q3, q4⟩ := matchM_rep hxs hsub hds e1
          exact ⟨_, dy, X', by simp only [readRes, tmps_getD hu]; exact Sem.run_pure .., e2, ⟨_, by rw [q4]; rfl, q3⟩, fun b hb => by rw [k2]; exact List.mem_cons_of_mem _ (hG b (q1 b hb)), q2 (hGn hnd')⟩
      · cases hr
    · cases hr
  | cell t ty =>
    simp only [resOne, getR_eq] at hr
    split at hr
    · rename_i r f hs
      have hkey : resKey σ (.cell t ty) = (true, r) := by simp [resKey, getR_eq, hs]
      rw [hkey]
      obtain ⟨u, hu, _, rfl⟩ := h.slot t _ hs
      split at hr
      · rename_i b hb
        obtain ⟨c, ct, F', k1, k2, k3⟩ := h.box r b hb
        have hnd := h.nodup true r
        rw [k2] at hnd
        have hnd' := (List.nodup_cons.1 hnd).2
        have hsz : c.size = b.length := by
          have := RepL.len (n := 1) (fun x vs F hh => by obtain ⟨v, rfl, _⟩ := hh; rfl) k3
          simpa using this
        have hread : ∀ v, (loadVar ty ⟨β r, f, none⟩).run P w = .ok v w → (readRes a.tmps (.cell t ty)).run P w = .ok v w := by
          intro v hv
          simp only [readRes, tmps_getD hu, asAddr, Sem.run_bind, Sem.run_pure, Result.andThen_ok, hv]
        split at hr
        · rename_i hagg
          split at hr
          · rename_i hc
            obtain ⟨xs, hxs, heq⟩ := Option.map_eq_some_iff.1 hr
            simp only [Prod.mk.injEq] at heq
            obtain ⟨rfl, rfl⟩ := heq
            obtain ⟨hc1, hc2⟩ := hc
            obtain ⟨G, hG, hGn, hsub⟩ := RepL.subN (R := CellRep sh w ρ) f (P.cellsOf ty) k3
            obtain ⟨dy, e1, e2⟩ := he.1
            unfold ev at e1
            cases hds : evAs ρ xs with
            | none => simp only [hds] at e1; cases e1
            | some ds =>
              simp only [hds, evX] at e1
              obtain ⟨X', q1, q2, q3, q4⟩ := matchM_rep hxs hsub hds e1
              exact ⟨_, dy, X', hread _ (loadVar_agg hagg k1 rfl hc2 (by omega)), e2, ⟨_, by rw [q4]; rfl, q3⟩, fun b hb => by rw [k2]; exact List.mem_cons_of_mem _ (hG b (q1 b hb)), q2 (hGn hnd')⟩
          · cases hr
        · split at hr
          · rename_i hna
            split at hr
            · rename_i y m' hy
              split at hr
              · rename_i hm
                simp only [Option.some.injEq, Prod.mk.injEq] at hr
                obtain ⟨rfl, rfl⟩ := hr
                obtain ⟨v, A, X, B, hcf, rfl, ⟨dy, e1, e2, e3⟩, _⟩ := RepL.pick (y := (none : Cell)) (fun _ => rfl) k3 hy
                obtain ⟨dy', q1, q2⟩ := he.1
                unfold ev at q1
                simp only [evAs, e1, evX] at q1
                rw [if_neg (by simp [e2])] at q1
                simp only [Option.some.injEq] at q1
                subst q1
                obtain ⟨X', hX', h4⟩ := coeR_rep hm e1 e3
                refine ⟨v, dy, X', hread _ (loadVar_atom hna k1 (by simpa using hcf)), q2, valRep_atom ⟨e2, h4⟩, fun b hb => ?_, ?_⟩
                · rw [k2]
                  rcases hX' with rfl | rfl
                  · exact List.mem_cons_of_mem _ (List.mem_append_right _ (List.mem_append_left _ hb))
                  · simp at hb
                · rcases hX' with rfl | rfl
                  · exact (List.nodup_append.1 (List.nodup_append.1 hnd').2.1).1
                  · simp
              · cases hr
            · cases hr
          · cases hr
      · cases hr
    · cases hr

theorem resAll_rep (h : InvG sh0 w0 G0 ρ σ a w sh F β) : ∀ {rv : List ResultVar} {rt : List (Ty × Md)} {nv : Nat} {es : List Em} {xs : List A} {rs : List Dy}, resAll P σ nv rt rv = some (es, xs) → EmOk Fn ρ nv es →
    evAs ρ xs = some rs → rs.map (·.1) = rt.map (·.1) → (rv.map (resKey σ)).Nodup →
    ∃ vs X, (rv.mapM (readRes a.tmps)).run P w = .ok vs w ∧ ResL sh w rt rs vs X ∧ (∀ b ∈ X, ∃ k, k ∈ rv.map (resKey σ) ∧ b ∈ F k.1 k.2) ∧ X.Nodup
  | [], [], nv, es, xs, rs, hr, he, hx, _, _ => by
    simp only [resAll, Option.some.injEq, Prod.mk.injEq] at hr
    obtain ⟨rfl, rfl⟩ := hr
    simp only [evAs, Option.some.injEq] at hx
    subst hx
    exact ⟨[], [], by simp, ⟨rfl, rfl, rfl⟩, by simp, by simp⟩
  | [], _ :: _, nv, es, xs, rs, hr, _, _, _, _ => by simp [resAll] at hr
  | _ :: _, [], nv, es, xs, rs, hr, _, _, _, _ => by simp [resAll] at hr
  | v :: rv, t :: rt, nv, es, xs, rs, hr, he, hx, ht, hnd => by
    simp only [resAll] at hr
    cases h1 : resOne P σ nv t.2 v with
    | none => rw [h1] at hr; cases hr
    | some p => ?_
    obtain ⟨es1, x1⟩ := p
    rw [h1] at hr
    dsimp only at hr
    cases h2 : resAll P σ (nv + emN es1) rt rv with
    | none => rw [h2] at hr; cases hr
    | some q => ?_
    obtain ⟨es2, xs2⟩ := q
    rw [h2] at hr
    simp only [Option.some.injEq, Prod.mk.injEq] at hr
    obtain ⟨rfl, rfl⟩ := hr
    obtain ⟨he1, he2⟩ := he.split
    obtain ⟨d, ds, e1, e2, rfl⟩ := evAs_cons hx
    simp only [List.map_cons, List.cons.injEq] at ht
    simp only [List.map_cons] at hnd
    have hnd2 := List.nodup_cons.1 hnd
    obtain ⟨u, d', X1, r1, r2, r3, r4, r5⟩ := resOne_rep h h1 he1
    obtain rfl := some_eq e1 r2
    obtain ⟨vs, X2, k1, k2, k3, k4⟩ := resAll_rep h h2 he2 e2 ht.2 hnd2.2
    refine ⟨u :: vs, X1 ++ X2, by simp [List.mapM_cons, r1, k1], ⟨d, ds, u, vs, X1, X2, rfl, rfl, rfl, ht.1, r3, k2⟩, fun b hb => ?_, ?_⟩
    · rcases List.mem_append.1 hb with hb | hb
      · exact ⟨resKey σ v, by simp, r4 b hb⟩
      · obtain ⟨t', ht', hbt⟩ := k3 b hb
        exact ⟨t', by rw [List.map_cons]; exact List.mem_cons_of_mem _ ht', hbt⟩
    · rw [List.nodup_append]
      refine ⟨r5, k4, fun b hb b' hb' => ?_⟩
      rintro rfl
      obtain ⟨k, hk, hb2⟩ := k3 b hb'
      have hne : resKey σ v ≠ k := by
        rintro rfl
        exact hnd2.1 hk
      exact h.disj _ _ k.1 k.2 hne b (r4 b hb) hb2

/-- What nobody writes when all that is owned is given up. -/
def shAll (sh : Nat → Prop) (F : Bool → Nat → List Nat) (b : Nat) : Prop := sh b ∨ ∃ k i, b ∈ F k i

theorem knownA_rep : ∀ {cs : List Cell} {xs : List A} {vs : List Value} {X : List Nat}, knownA cs = some xs → RepL (one (CellRep sh w ρ)) cs vs X → (∀ b ∈ X, shAll sh F b) → ∃ ds, evAs ρ xs = some ds ∧ shAtoms (shAll sh F) w ds vs
  | [], xs, vs, X, h, hr, _ => by
    simp [knownA] at h
    subst h
    exact ⟨[], rfl, hr.1⟩
  | none :: cs, xs, vs, X, h, hr, _ => by simp [knownA] at h
  | some (x, m) :: cs, xs, vs, X, h, hr, hX => by
    simp only [knownA] at h
    obtain ⟨ys, hy, rfl⟩ := Option.map_eq_some_iff.1 h
    obtain ⟨v1, v2, F1, F2, rfl, rfl, ⟨v, rfl, d, h1, h2, h3⟩, hrest⟩ := hr
    obtain ⟨ds, hds, hat⟩ := knownA_rep hy hrest (fun b hb => hX b (List.mem_append_right _ hb))
    exact ⟨d :: ds, by simp [evAs, h1, hds], v, v2, rfl, ⟨h2, Rep.freeze (fun b hb => .inl hb) h3 (fun b hb => hX b (List.mem_append_left _ hb))⟩, hat⟩

theorem resF_rep {nv : Nat} {v : ResultVar} {es : List Em} {x : A} (h : InvG sh0 w0 G0 ρ σ a w sh F β) (hr : resF P σ nv v = some (es, x)) (he : EmOk Fn ρ nv es) :
    ∃ u d, (readRes a.tmps v).run P w = .ok u w ∧ evA ρ x = some d ∧ ValRep (shAll sh F) w d .sh u [] := by
  cases v with
  | tmp t =>
    simp only [resF, getR_eq] at hr
    split at hr
    · rename_i y m' hs
      simp only [Option.some.injEq, Prod.mk.injEq] at hr
      obtain ⟨rfl, rfl⟩ := hr
      obtain ⟨u, hu, d, h1, vs, h2, h3⟩ := h.slot t _ hs
      exact ⟨u, d, by simp [readRes, tmps_getD hu], h1, vs, h2, Rep.freeze (fun b hb => .inl hb) h3 (fun b hb => .inr ⟨_, _, hb⟩)⟩
    · rename_i b r c ln hs
      obtain ⟨⟨⟨y, m⟩, l⟩, hy, heq⟩ := Option.map_eq_some_iff.1 hr
      simp only [Prod.mk.injEq] at heq
      obtain ⟨rfl, rfl⟩ := heq
      obtain ⟨u, hu, _, hhdr⟩ := h.slot t _ hs
      obtain ⟨d, G, h1, ⟨vs, h2, h3⟩, h4⟩ := root_rep h (rootA_some hy) hhdr.1
      exact ⟨u, d, by simp [readRes, tmps_getD hu], h1, vs, h2, Rep.freeze (fun b hb => .inl hb) h3 (fun k hk => .inr ⟨_, _, h4 k hk⟩)⟩
    · rename_i r f n hs
      obtain ⟨u, hu, _, _, c0, ty0, fz0, g1, g2, rfl⟩ := h.slot t _ hs
      split at hr
      · rename_i b hb
        obtain ⟨xs, hxs, heq⟩ := Option.map_eq_some_iff.1 hr
        simp only [Prod.mk.injEq] at heq
        obtain ⟨rfl, rfl⟩ := heq
        obtain ⟨cc, ct, F', k1, k2, k3⟩ := h.box r b hb
        rw [k1] at g1
        simp only [Option.some.injEq, Obj.cells.injEq] at g1
        obtain ⟨rfl, rfl, rfl⟩ := g1
        have hin : ∀ b ∈ F', shAll sh F b := fun b hb => .inr ⟨true, r, by rw [k2]; exact List.mem_cons_of_mem _ hb⟩
        obtain ⟨G, hG, hGn, hsub⟩ := RepL.subN (R := CellRep sh w ρ) f n k3
        obtain ⟨dy, e1, e2⟩ := he.1
        obtain ⟨ds, q1, q2⟩ := knownA_rep (F := F) hxs hsub (fun b hb => hin b (hG b hb))
        unfold ev at e1
        simp only [q1, evX] at e1
        obtain ⟨p1, p2, _, _⟩ := ofCells_rep q2 e1
        exact ⟨_, dy, by simp only [readRes, tmps_getD hu]; exact Sem.run_pure .., e2, _, by rw [p2]; rfl, p1⟩
      · cases hr
    · cases hr
  | cell t ty =>
    simp only [resF, getR_eq] at hr
    split at hr
    · rename_i r f hs
      obtain ⟨u, hu, _, rfl⟩ := h.slot t _ hs
      split at hr
      · rename_i b hb
        obtain ⟨c, ct, F', k1, k2, k3⟩ := h.box r b hb
        have hsz : c.size = b.length := by
          have := RepL.len (n := 1) (fun x vs F hh => by obtain ⟨v, rfl, _⟩ := hh; rfl) k3
          simpa using this
        have hread : ∀ v, (loadVar ty ⟨β r, f, none⟩).run P w = .ok v w → (readRes a.tmps (.cell t ty)).run P w = .ok v w := by
          intro v hv
          simp only [readRes, tmps_getD hu, asAddr, Sem.run_bind, Sem.run_pure, Result.andThen_ok, hv]
        have hin : ∀ b ∈ F', shAll sh F b := fun b hb => .inr ⟨true, r, by rw [k2]; exact List.mem_cons_of_mem _ hb⟩
        split at hr
        · rename_i hagg
          split at hr
          · rename_i hc
            obtain ⟨xs, hxs, heq⟩ := Option.map_eq_some_iff.1 hr
            simp only [Prod.mk.injEq] at heq
            obtain ⟨rfl, rfl⟩ := heq
            obtain ⟨hc1, hc2⟩ := hc
            obtain ⟨G, hG, hGn, hsub⟩ := RepL.subN (R := CellRep sh w ρ) f (P.cellsOf ty) k3
            obtain ⟨dy, e1, e2⟩ := he.1
            obtain ⟨ds, q1, q2⟩ := knownA_rep (F := F) hxs hsub (fun b hb => hin b (hG b hb))
            unfold ev at e1
            simp only [q1, evX] at e1
            obtain ⟨p1, p2, _, _⟩ := ofCells_rep q2 e1
            exact ⟨_, dy, hread _ (loadVar_agg hagg k1 rfl hc2 (by omega)), e2, _, by rw [p2]; rfl, p1⟩
          · cases hr
        · split at hr
          · rename_i hna
            split at hr
            · rename_i y m' hy
              simp only [Option.some.injEq, Prod.mk.injEq] at hr
              obtain ⟨rfl, rfl⟩ := hr
              obtain ⟨v, A, X, B, hcf, rfl, ⟨dy, e1, e2, e3⟩, _⟩ := RepL.pick (y := (none : Cell)) (fun _ => rfl) k3 hy
              obtain ⟨dy', q1, q2⟩ := he.1
              unfold ev at q1
              simp only [evAs, e1, evX] at q1
              rw [if_neg (by simp [e2])] at q1
              simp only [Option.some.injEq] at q1
              subst q1
              exact ⟨v, dy, hread _ (loadVar_atom hna k1 (by simpa using hcf)), q2, valRep_atom ⟨e2, Rep.freeze (fun b hb => .inl hb) e3 (fun b hb => hin b (List.mem_append_right _ (List.mem_append_left _ hb)))⟩⟩
            · cases hr
          · cases hr
      · cases hr
    · cases hr

theorem resFAll_rep (h : InvG sh0 w0 G0 ρ σ a w sh F β) : ∀ {rv : List ResultVar} {rt : List (Ty × Md)} {nv : Nat} {es : List Em} {xs : List A} {rs : List Dy}, resFAll P σ nv rv = some (es, xs) → EmOk Fn ρ nv es →
    evAs ρ xs = some rs → rs.map (·.1) = rt.map (·.1) → (∀ t ∈ rt, t.2 = .sh) → ∃ vs, (rv.mapM (readRes a.tmps)).run P w = .ok vs w ∧ ResL (shAll sh F) w rt rs vs []
  | [], rt, nv, es, xs, rs, hr, he, hx, ht, _ => by
    simp only [resFAll, Option.some.injEq, Prod.mk.injEq] at hr
    obtain ⟨rfl, rfl⟩ := hr
    simp only [evAs, Option.some.injEq] at hx
    subst hx
    have : rt = [] := by simpa using ht.symm
    subst this
    exact ⟨[], by simp, rfl, rfl, rfl⟩
  | v :: rv, rt, nv, es, xs, rs, hr, he, hx, ht, hm => by
    simp only [resFAll] at hr
    cases h1 : resF P σ nv v with
    | none => rw [h1] at hr; cases hr
    | some p => ?_
    obtain ⟨es1, x1⟩ := p
    rw [h1] at hr
    dsimp only at hr
    cases h2 : resFAll P σ (nv + emN es1) rv with
    | none => rw [h2] at hr; cases hr
    | some q => ?_
    obtain ⟨es2, xs2⟩ := q
    rw [h2] at hr
    simp only [Option.some.injEq, Prod.mk.injEq] at hr
    obtain ⟨rfl, rfl⟩ := hr
    obtain ⟨he1, he2⟩ := he.split
    obtain ⟨d, ds, e1, e2, rfl⟩ := evAs_cons hx
    cases rt with
    | nil => simp at ht
    | cons t rt =>
      simp only [List.map_cons, List.cons.injEq] at ht
      obtain ⟨u, d', r1, r2, r3⟩ := resF_rep h h1 he1
      obtain rfl := some_eq e1 r2
      obtain ⟨vs, k1, k2⟩ := resFAll_rep h h2 he2 e2 ht.2 (fun t ht => hm t (List.mem_cons_of_mem _ ht))
      refine ⟨u :: vs, by simp [List.mapM_cons, r1, k1], d, ds, u, vs, [], [], rfl, rfl, rfl, ht.1, ?_, k2⟩
      rw [hm t (by simp)]
      exact r3

theorem results_run {fn : Func} {vs : List Value} (h : (fn.results.toList.mapM (readRes a.tmps)).run P w = .ok vs w) : (results fn a.tmps).run P w = .ok (resVal vs) w := by
  have he : results fn a.tmps = (do let vs ← fn.results.mapM (readRes a.tmps); pure (if h : vs.size = 1 then vs[0] else .tuple vs)) := rfl
  rw [he]
  generalize hrv : fn.results = rv at h ⊢
  obtain ⟨rv⟩ := rv
  rw [List.mapM_toArray]
  simp only [Sem.run_bind, Sem.run_map, h, Result.andThen_ok, Sem.run_pure]
  congr 1
  match vs with
  | [] => simp [resVal]
  | [u] => simp [resVal]
  | u :: v :: vs => simp [resVal]

/-- What was lent comes back. -/
theorem outA_rep {nv p : Nat} {q : Lk} {es : List Em} {x : A} {k : Bool × Nat} {d : Dy} (h : InvG sh0 w0 G0 ρ σ a w sh F β) (ho : outA σ nv p q = some (es, x, k)) (he : EmOk Fn ρ nv es) (hx : evA ρ x = some d) (hp : p ∈ σ.kp) (hty : d.1 = q.ty)
    (hag : q.ty.isAgg = true → (∃ us, G0.kv p = .agg us) ∨ ∃ m m', q = .box q.ty m m') : ∃ L, LentRep q true sh w d (G0.kv p) L ∧ L.Nodup ∧ ∀ b ∈ L, b ∈ F k.1 k.2 := by
  have hkp := h.keep p hp
  cases q with
  | mov τ m => cases ho
  | row τ =>
    have hty : d.1 = τ := hty
    have hbox : ∀ {r : Nat} {cs : List Cell} {xs : List A}, (r, p) ∈ σ.kb → σ.boxes[r]? = some (some cs) → matchM (Md.deep τ) cs = some xs → es = [.e ⟨.mk, xs⟩] → x = .var nv → k = (true, r) →
        ∃ L, LentRep (.row τ) true sh w d (G0.kv p) L ∧ L.Nodup ∧ ∀ b ∈ L, b ∈ F k.1 k.2 := by
      rintro r cs xs hkb hb hm rfl rfl rfl
      obtain ⟨c, ty, F', k1, k2, k3⟩ := h.box r cs hb
      obtain ⟨ty', q1⟩ := h.keepB r p hkb cs hb
      rw [k1] at q1
      simp only [Option.some.injEq, Obj.cells.injEq] at q1
      obtain ⟨rfl, rfl, _⟩ := q1
      obtain ⟨ds, dy, m1, m2, m3⟩ := ev_mk he
      simp only [evA] at hx
      obtain rfl := some_eq m3 hx
      obtain ⟨X, x1, x2, x3, x4⟩ := matchM_rep hm k3 m1 m2
      have hnd := h.nodup true r
      rw [k2] at hnd
      rcases hag (by show τ.isAgg = true; rw [← hty]; exact x4) with ⟨us, hus⟩ | ⟨_, _, hh⟩
      · refine ⟨X, ⟨_, ?_, x3⟩, x2 (List.nodup_cons.1 hnd).2, fun b hb => by show b ∈ F true r; rw [k2]; exact List.mem_cons_of_mem _ (x1 b hb)⟩
        rw [x4, hus]
        simp [valOf, Value.cells]
      · cases hh
    simp only [outA, getR_eq] at ho
    have hrest : (match σ.kb.findSome? (fun x => if x.2 == p then (match σ.boxes[x.1]? with | some (some cs) => some (x.1, cs) | _ => none) else none) with
      | some (r, cs) => (matchM (Md.deep τ) cs).map fun xs => (([.e ⟨.mk, xs⟩], .var nv, (true, r)) : List Em × A × (Bool × Nat))
      | none => none) = some (es, x, k) → ∃ L, LentRep (.row τ) true sh w d (G0.kv p) L ∧ L.Nodup ∧ ∀ b ∈ L, b ∈ F k.1 k.2 := by
      intro ho
      split at ho
      · rename_i r cs hf
        obtain ⟨xs, hm, heq⟩ := Option.map_eq_some_iff.1 ho
        simp only [Prod.mk.injEq] at heq
        obtain ⟨rfl, rfl, rfl⟩ := heq
        obtain ⟨y, hy, hy2⟩ := List.exists_of_findSome?_eq_some hf
        obtain ⟨r', p'⟩ := y
        split at hy2
        · rename_i hpp
          have hpp : p' = p := by simpa using hpp
          subst hpp
          split at hy2
          · rename_i cs' hcs
            simp only [Option.some.injEq, Prod.mk.injEq] at hy2
            obtain ⟨rfl, rfl⟩ := hy2
            exact hbox hy hcs hm rfl rfl rfl
          · cases hy2
        · cases hy2
      · cases ho
    split at ho
    · rename_i y m hs
      split at ho
      · rename_i hc
        simp only [Option.some.injEq, Prod.mk.injEq] at ho
        obtain ⟨rfl, rfl, rfl⟩ := ho
        obtain ⟨v, hv, d', e1, e2⟩ := h.slot p _ hs
        obtain rfl := some_eq e1 hx
        rw [hkp] at hv
        simp only [Option.some.injEq] at hv
        subst hv
        exact ⟨F false p, coe_val hc e1 e2, h.nodup _ _, fun b hb => hb⟩
      · cases ho
    · exact hrest ho
  | box τ m m' =>
    have hty : d.1 = τ := hty
    simp only [outA, getR_eq] at ho
    split at ho
    · rename_i r hs
      split at ho
      · rename_i hr
        have hr : r = p := by simpa using hr
        subst hr
        obtain ⟨v, hv, _, hv2⟩ := h.slot r _ hs
        rw [hkp] at hv
        simp only [Option.some.injEq] at hv
        split at ho
        · rename_i cs hb
          obtain ⟨c, ty, F', k1, k2, k3⟩ := h.box r cs hb
          have hnd := h.nodup true r
          rw [k2] at hnd
          have hnd' := List.nodup_cons.1 hnd
          have hfin : ∀ X, (∀ b ∈ X, b ∈ F') → X.Nodup → Rep sh w d.1 m' d.2 c.toList X → k = (true, r) → ∃ L, LentRep (.box τ m m') true sh w d (G0.kv r) L ∧ L.Nodup ∧ ∀ b ∈ L, b ∈ F k.1 k.2 := by
            rintro X hX hXn hrep rfl
            refine ⟨β r :: X, ⟨β r, c, ty, X, by rw [hv, hv2], rfl, k1, hrep⟩, List.nodup_cons.2 ⟨fun hm => hnd'.1 (hX _ hm), hXn⟩, fun b hb => ?_⟩
            show b ∈ F true r
            rw [k2]
            rcases List.mem_cons.1 hb with rfl | hb
            · simp
            · exact List.mem_cons_of_mem _ (hX b hb)
          split at ho
          · obtain ⟨xs, hm, heq⟩ := Option.map_eq_some_iff.1 ho
            simp only [Prod.mk.injEq] at heq
            obtain ⟨rfl, rfl, hk⟩ := heq
            obtain ⟨ds, dy, m1, m2, m3⟩ := ev_mk he
            simp only [evA] at hx
            obtain rfl := some_eq m3 hx
            obtain ⟨X, x1, x2, x3, x4⟩ := matchM_rep hm k3 m1 m2
            exact hfin X x1 (x2 hnd'.2) x3 hk.symm
          · split at ho
            · rename_i y m1
              split at ho
              · rename_i hc
                simp only [Option.some.injEq, Prod.mk.injEq] at ho
                obtain ⟨rfl, rfl, hk⟩ := ho
                obtain ⟨v1, v2, F1, F2, hvv, rfl, ⟨u, rfl, d1, e1, e2, e3⟩, rfl, rfl⟩ := k3
                obtain rfl := some_eq e1 hx
                obtain ⟨X, x1, x2⟩ := coeR_rep hc e1 e3
                refine hfin X (by rcases x1 with rfl | rfl <;> simp) (by rcases x1 with rfl | rfl; simpa using hnd'.2; simp) ?_ hk.symm
                rw [hvv]; exact x2
              · cases ho
            · cases ho
        · cases ho
      · cases ho
    · cases ho

/-- A FUNCTION'S CONTRACT, OUT OF ITS TEXT. -/
theorem con_of_ir {Fn' : Fns} {f : Nat} {fn : Func} {s : Sig} {ir : IR} (hm : P.follows .mixedOrders = true) (hC : ∀ f s, C f = some s → Con P Fn f s) (hf : P.funcs[f]? = some fn) (hir : fnIR P C H fn s = some ir)
    (hFn : ∀ ds rs, Fn' f ds = some rs → fnDen Fn N ir s ds = some rs) : Con P Fn' f s := by
  intro w sh args ds rs L hsh hrep hLn hLo hds
  have hden := hFn ds rs hds
  unfold fnDen at hden
  split at hden
  case isFalse => cases hden
  rename_i hlen
  obtain ⟨hlen, hin⟩ := hlen
  cases hd : den Fn N ir ds [] with
  | none => rw [hd] at hden; cases hden
  | some rs' => ?_
  rw [hd] at hden
  dsimp only at hden
  split at hden
  case isFalse => cases hden
  rename_i hty
  simp only [Option.some.injEq] at hden
  subst hden
  unfold fnIR at hir
  cases hb : fn.body with
  | none => rw [hb] at hir; cases hir
  | some c => ?_
  rw [hb] at hir
  dsimp only at hir
  split at hir
  case isFalse => cases hir
  rename_i hle
  obtain ⟨hle, hok⟩ := hle
  refine calls_of_wp hf hb ?_
  -- the start
  have hstart : Inv sh w ⟨L, fun i => args.getD i undef⟩ ds (startSg fn.ntmps s (kbOf s c)) { tmps := args ++ Array.replicate (fn.ntmps - args.size) undef, defers := [] } w ∧
      ∀ p q, s.lt = some (p, q) → ∃ v, args.toList[p]? = some v ∧ args.getD p undef = v ∧ (q.ty.isAgg = true → (∃ us, v = .agg us) ∨ ∃ m m', q = .box q.ty m m') := by
    cases hl : s.lt with
    | none =>
      unfold ArgsL at hrep
      rw [hl] at hrep
      obtain ⟨hr, rfl⟩ := hrep
      refine ⟨start_inv hl hsh hr (by unfold Sig.np at hle; rw [hl] at hle; exact hle), fun p q h => by cases h⟩
    | some pq =>
      obtain ⟨p, q⟩ := pq
      unfold ArgsL at hrep
      rw [hl] at hrep
      obtain ⟨ds0, d, v, hds0, hv, hr, hq⟩ := hrep
      have hdt : d.1 = q.ty := by
        unfold Sig.inB at hin
        rw [hl, hds0] at hin
        simpa using hin
      cases q with
      | row τ =>
        refine ⟨start_row hsh hl hds0 hv hr hq hLn hLo hle, fun p' q' h => ?_⟩
        simp only [Option.some.injEq, Prod.mk.injEq] at h
        obtain ⟨rfl, rfl⟩ := h
        refine ⟨v, hv, (tmps_at (n := 0) hv).2.1, fun hag => .inl ?_⟩
        obtain ⟨vs, h1, _⟩ := hq
        rw [hdt] at h1
        exact ⟨vs.toArray, by rw [h1, hag]; rfl⟩
      | mov τ m =>
        refine ⟨start_mov hsh hl hds0 hv hr hq hLn hLo hle, fun p' q' h => ?_⟩
        simp only [Option.some.injEq, Prod.mk.injEq] at h
        obtain ⟨rfl, rfl⟩ := h
        refine ⟨v, hv, (tmps_at (n := 0) hv).2.1, fun hag => .inl ?_⟩
        obtain ⟨vs, h1, _⟩ := hq
        rw [hdt] at h1
        exact ⟨vs.toArray, by rw [h1, hag]; rfl⟩
      | box τ m m' =>
        refine ⟨start_box hsh hl hds0 hv hr hq hdt (fun hag => ?_) hLn hLo hle, fun p' q' h => ?_⟩
        · unfold Sig.okB at hok
          rw [hl] at hok
          simp only [Bool.or_eq_true, Bool.not_eq_true'] at hok
          rcases hok with h | h
          · rw [hag] at h; cases h
          · exact h
        · simp only [Option.some.injEq, Prod.mk.injEq] at h
          obtain ⟨rfl, rfl⟩ := h
          exact ⟨v, hv, (tmps_at (n := 0) hv).2.1, fun _ => .inr ⟨m, m', rfl⟩⟩
  obtain ⟨hstart, hlent⟩ := hstart
  refine sx_sound hm hC c _ _ ir ds [] _ w rs' _ hir hd hstart (by rw [hlen]; exact startSg_nv.1.symm) (by rw [startSg_nv.2]; rfl) ?_
  intro e Ls' hp σ' ρ' ir' a' w' hρ hk hden' hI' hv' hl'
  have key : ∀ K, K = kTop P fn s .norm → K σ' = some ir' → a'.defers = [] ∧ ∃ v, (results fn a'.tmps).run P w' = .ok v w' ∧ ∃ v_1 sh' Fr L', Ending.returned v = .returned v_1 ∧ Ext w w' L ∧ (∀ b, sh b → sh' b) ∧
      (∀ b, sh' b → b < w'.heap.size ∧ (sh b ∨ b ∈ L ∨ w.heap.size ≤ b)) ∧ ResOut sh' w' s args.toList rs' v_1 Fr L' ∧ (Fr ++ L').Nodup ∧ ∀ b ∈ Fr ++ L', (b ∈ L ∨ w.heap.size ≤ b) ∧ b < w'.heap.size ∧ ¬ sh' b := by
    intro K hK hk
    subst hK
    unfold kTop at hk
    dsimp only at hk
    -- nothing is given back
    have hplain : rs'.map (·.1) = s.rt.map (·.1) → kTopP P fn s σ' = some ir' → (∀ {sh' : Nat → Prop} {v : Value} {Fr : List Nat}, ResRep sh' w' s.rt rs' v Fr → ResOut sh' w' s args.toList rs' v Fr []) →
        a'.defers = [] ∧ ∃ v, (results fn a'.tmps).run P w' = .ok v w' ∧ ∃ v_1 sh' Fr L', Ending.returned v = .returned v_1 ∧ Ext w w' L ∧ (∀ b, sh b → sh' b) ∧
          (∀ b, sh' b → b < w'.heap.size ∧ (sh b ∨ b ∈ L ∨ w.heap.size ≤ b)) ∧ ResOut sh' w' s args.toList rs' v_1 Fr L' ∧ (Fr ++ L').Nodup ∧ ∀ b ∈ Fr ++ L', (b ∈ L ∨ w.heap.size ≤ b) ∧ b < w'.heap.size ∧ ¬ sh' b := by
      intro hty hk hres
      unfold kTopP at hk
      split at hk
      case isTrue hsh1 =>
        have hm : ∀ t ∈ s.rt, t.2 = .sh := by
          intro t ht
          have := List.all_eq_true.1 hsh1 t ht
          generalize t.2 = m at this
          cases m <;> simp [Md.isSh] at this
          rfl
        cases hra : resFAll P σ' σ'.nv fn.results.toList with
        | none => rw [hra] at hk; cases hk
        | some p => ?_
        obtain ⟨es, xs⟩ := p
        rw [hra] at hk
        simp only [Option.some.injEq] at hk
        subst hk
        obtain ⟨δ, hem, hden2, _⟩ := den_emit hden'
        simp only [den] at hden2
        obtain ⟨sh', F, β, hG⟩ := hI'
        obtain ⟨vs, k1, k2⟩ := resFAll_rep (hG.more δ) hra (by rw [← hv']; exact hem) hden2 hty hm
        refine ⟨hG.defers, _, results_run k1, _, shAll sh' F, [], [], rfl, hG.ext, fun b hb => .inl (hG.sh_old b hb), fun b hb => ?_, hres ⟨vs, k2, rfl⟩, by simp, by simp⟩
        rcases hb with hb | ⟨k, i, hb⟩
        · exact ⟨hG.sh_lt b hb, hG.sh_new b hb⟩
        · obtain ⟨o1, o2, o3⟩ := hG.own k i b hb
          exact ⟨o2, .inr o1⟩
      split at hk
      case isFalse => cases hk
      rename_i hnd
      cases hra : resAll P σ' σ'.nv s.rt fn.results.toList with
      | none => rw [hra] at hk; cases hk
      | some p => ?_
      obtain ⟨es, xs⟩ := p
      rw [hra] at hk
      simp only [Option.some.injEq] at hk
      subst hk
      obtain ⟨δ, hem, hden2, _⟩ := den_emit hden'
      simp only [den] at hden2
      obtain ⟨sh', F, β, hG⟩ := hI'
      obtain ⟨vs, X, k1, k2, k3, k4⟩ := resAll_rep (hG.more δ) hra (by rw [← hv']; exact hem) hden2 hty hnd
      refine ⟨hG.defers, _, results_run k1, _, sh', X, [], rfl, hG.ext, hG.sh_old, fun b hb => ⟨hG.sh_lt b hb, hG.sh_new b hb⟩, hres ⟨vs, k2, rfl⟩, by simpa using k4, fun b hb => ?_⟩
      rw [List.append_nil] at hb
      obtain ⟨k, _, hbt⟩ := k3 b hb
      exact hG.own k.1 k.2 b hbt
    cases hl : s.lt with
    | some pq =>
      obtain ⟨p, q⟩ := pq
      rw [hl] at hk
      dsimp only at hk
      by_cases hmv : q.isMov = true
      · rw [if_pos hmv] at hk
        split at hk
        · cases hk
        rename_i hnb
        have hnb : s.nb = false := by simpa using hnb
        cases q with
        | mov τ m =>
          have hty : rs'.map (·.1) = s.rt.map (·.1) := by
            unfold Sig.tys at hty
            rw [hl] at hty
            exact hty
          refine hplain hty hk fun h => ?_
          unfold ResOut
          rw [hl]
          exact ⟨h, rfl⟩
        | row τ => cases hmv
        | box τ m m' => cases hmv
      rw [if_neg hmv] at hk
      unfold kTopL at hk
      split at hk
      case isTrue => cases hk
      rename_i hkp
      have hkp : p ∈ σ'.kp := by simpa using hkp
      cases hra : resAll P σ' σ'.nv s.rt fn.results.toList with
      | none => rw [hra] at hk; cases hk
      | some pp => ?_
      obtain ⟨es, xs⟩ := pp
      rw [hra] at hk
      dsimp only at hk
      cases hoa : outA σ' (σ'.nv + emN es) p q with
      | none => rw [hoa] at hk; cases hk
      | some qq => ?_
      obtain ⟨es', y, kk⟩ := qq
      rw [hoa] at hk
      dsimp only at hk
      split at hk
      case isFalse => cases hk
      rename_i hnd
      simp only [Option.some.injEq] at hk
      subst hk
      obtain ⟨δ, hem, hden2, _⟩ := den_emit hden'
      simp only [den] at hden2
      obtain ⟨hem1, hem2⟩ := hem.split
      obtain ⟨rs0, dl, rfl, e1, e2⟩ := evAs_split hden2
      obtain ⟨d, e3, rfl⟩ := evAs1 e2
      have htys : rs0.map (·.1) = s.rt.map (·.1) ∧ d.1 = q.ty := by
        unfold Sig.tys at hty
        rw [hl] at hty
        dsimp only at hty
        rw [if_neg hmv] at hty
        simp only [List.map_append, List.map_cons, List.map_nil] at hty
        have h2 := List.append_inj' hty rfl
        exact ⟨h2.1, by simpa using h2.2⟩
      obtain ⟨sh', F, β, hG⟩ := hI'
      have hnd2 := List.nodup_append.1 hnd
      obtain ⟨vs, X, k1, k2, k3, k4⟩ := resAll_rep (hG.more δ) hra (by rw [← hv']; exact hem1) e1 htys.1 hnd2.1
      obtain ⟨v, hv, hvD, hag⟩ := hlent p q hl
      obtain ⟨L', o1, o2, o3⟩ := outA_rep (hG.more δ) hoa (by rw [← hv']; exact hem2) e3 hkp htys.2 (fun h => by
        rcases hag h with ⟨us, hus⟩ | hh
        · exact .inl ⟨us, by rw [← hus, ← hvD]⟩
        · exact .inr hh)
      have hXL : ∀ b ∈ X, b ∉ L' := by
        intro b hb hb2
        obtain ⟨k', hk', hb3⟩ := k3 b hb
        have hne : k' ≠ kk := fun e => hnd2.2.2 k' hk' kk (by simp) e
        exact hG.disj k'.1 k'.2 kk.1 kk.2 hne b hb3 (o3 b hb2)
      refine ⟨hG.defers, _, results_run k1, _, sh', X, L', rfl, hG.ext, hG.sh_old, fun b hb => ⟨hG.sh_lt b hb, hG.sh_new b hb⟩, ?_, List.nodup_append.2 ⟨k4, o2, fun x hx y hy e => hXL x hx (e ▸ hy)⟩, fun b hb => ?_⟩
      · unfold ResOut
        rw [hl]
        have hgo : ∃ rs1 d' u, rs0 ++ [d] = rs1 ++ [d'] ∧ ResRep sh' w' s.rt rs1 (resVal vs) X ∧ args.toList[p]? = some u ∧ d'.1 = q.ty ∧ LentRep q true sh' w' d' u L' := ⟨rs0, d, v, rfl, ⟨vs, k2, rfl⟩, hv, htys.2, by rw [← hvD]; exact o1⟩
        cases q with
        | mov τ m => exact absurd rfl hmv
        | row τ => exact hgo
        | box τ m m' => exact hgo
      · rcases List.mem_append.1 hb with hb | hb
        · obtain ⟨k', _, hb3⟩ := k3 b hb
          exact hG.own k'.1 k'.2 b hb3
        · exact hG.own kk.1 kk.2 b (o3 b hb)
    | none => ?_
    rw [hl] at hk
    dsimp only at hk
    have hty : rs'.map (·.1) = s.rt.map (·.1) := by
      unfold Sig.tys at hty
      rw [hl] at hty
      exact hty
    have hL0 : L = [] := by
      unfold ArgsL at hrep
      rw [hl] at hrep
      exact hrep.2
    subst hL0
    cases hnb : s.nb with
    | true =>
      rw [hnb, if_pos rfl] at hk
      unfold kTopN at hk
      split at hk
      case h_2 => cases hk
      rename_i τ m t hrt hrv
      rw [getR_eq] at hk
      split at hk
      case h_2 => cases hk
      rename_i r hs
      rw [getR_eq] at hk
      split at hk
      case h_2 => cases hk
      rename_i cs hb
      obtain ⟨sh', F, β, hG⟩ := hI'
      -- what is handed back
      have hfin : ∀ (δ : List Dy) (d : Dy) (c : Array Value) (ty : TypeId) (X K : List Nat), rs' = [d] → w'.heap[β r]? = some (.cells c ty (0, 0)) → F true r = β r :: K → (∀ b ∈ X, b ∈ K) → X.Nodup → Rep sh' w' d.1 m d.2 c.toList X →
          a'.defers = [] ∧ ∃ v, (results fn a'.tmps).run P w' = .ok v w' ∧ ∃ v_1 sh' Fr L', Ending.returned v = .returned v_1 ∧ Ext w w' [] ∧ (∀ b, sh b → sh' b) ∧
            (∀ b, sh' b → b < w'.heap.size ∧ (sh b ∨ b ∈ ([] : List Nat) ∨ w.heap.size ≤ b)) ∧ ResOut sh' w' s args.toList rs' v_1 Fr L' ∧ (Fr ++ L').Nodup ∧ ∀ b ∈ Fr ++ L', (b ∈ ([] : List Nat) ∨ w.heap.size ≤ b) ∧ b < w'.heap.size ∧ ¬ sh' b := by
        intro δ d c ty X K hrs hw hF hX hXn hrep
        obtain ⟨u, hu, _, hv⟩ := hG.slot t _ hs
        have hrun : (fn.results.toList.mapM (readRes a'.tmps)).run P w' = .ok [u] w' := by
          rw [hrv]
          simp [List.mapM_cons, readRes, tmps_getD hu]
        have hnd := hG.nodup true r
        rw [hF] at hnd
        have hnd' := List.nodup_cons.1 hnd
        have hin : ∀ b ∈ β r :: X, b ∈ F true r := fun b hb => by
          rw [hF]
          rcases List.mem_cons.1 hb with rfl | hb
          · simp
          · exact List.mem_cons_of_mem _ (hX b hb)
        refine ⟨hG.defers, _, results_run hrun, _, sh', β r :: X, [], rfl, hG.ext, hG.sh_old, fun b hb => ⟨hG.sh_lt b hb, hG.sh_new b hb⟩, ?_, by simpa using List.nodup_cons.2 ⟨fun hm => hnd'.1 (hX _ hm), hXn⟩, fun b hb => ?_⟩
        · unfold ResOut
          rw [hl]
          refine ⟨?_, rfl⟩
          unfold ResR
          rw [hnb]
          refine ⟨τ, m, d, β r, c, ty, X, hrt, hrs, ?_, by rw [hv]; rfl, rfl, hw, hrep⟩
          rw [hrs, hrt] at hty
          simpa using hty
        · rw [List.append_nil] at hb
          exact hG.own true r b (hin b hb)
      obtain ⟨c, ty, K, k1, k2, k3⟩ := hG.box r cs hb
      split at hk
      · obtain ⟨xs, hm, rfl⟩ := Option.map_eq_some_iff.1 hk
        obtain ⟨δ, hem, hden2, _⟩ := den_emit hden'
        simp only [den] at hden2
        rw [hv'] at hem
        obtain ⟨ds, dy, m1, m2, m3⟩ := ev_mk hem
        obtain ⟨_, _, K', q1, q2, q3⟩ := (hG.more δ).box r cs hb
        rw [k1] at q1
        simp only [Option.some.injEq, Obj.cells.injEq] at q1
        obtain ⟨rfl, rfl, _⟩ := q1
        have hdy : rs' = [dy] := by
          simp only [evAs, evA, m3, Option.some.injEq] at hden2
          exact hden2.symm
        have hnd := hG.nodup true r
        rw [q2] at hnd
        obtain ⟨X, x1, x2, x3, x4⟩ := matchM_rep hm q3 m1 m2
        exact hfin δ dy c ty X K' hdy k1 q2 x1 (x2 (List.nodup_cons.1 hnd).2) x3
      · split at hk
        · rename_i y m1
          split at hk
          · rename_i hc
            simp only [Option.some.injEq] at hk
            subst hk
            simp only [den] at hden'
            obtain ⟨d, e1, hrs⟩ := evAs1 hden'
            obtain ⟨v1, v2, F1, F2, hvv, rfl, ⟨u, rfl, d1, f1, f2, f3⟩, rfl, rfl⟩ := k3
            obtain rfl := some_eq f1 e1
            obtain ⟨X, x1, x2⟩ := coeR_rep hc f1 f3
            have hnd := hG.nodup true r
            rw [k2] at hnd
            have hnd' := (List.nodup_cons.1 hnd).2
            exact hfin [] d1 c ty X _ hrs k1 k2 (by rcases x1 with rfl | rfl <;> simp) (by rcases x1 with rfl | rfl; simpa using hnd'; simp) (by rw [hvv]; exact x2)
          · cases hk
        · cases hk
    | false => ?_
    rw [hnb, if_neg (by simp)] at hk
    have hres : ∀ {sh' : Nat → Prop} {v : Value} {Fr : List Nat}, ResRep sh' w' s.rt rs' v Fr → ResOut sh' w' s args.toList rs' v Fr [] := by
      intro sh' v Fr h
      unfold ResOut
      rw [hl]
      refine ⟨?_, rfl⟩
      unfold ResR
      rw [hnb]
      exact h
    exact hplain hty hk hres
  cases e with
  | norm => exact key _ rfl hk
  | ret => exact key _ rfl hk
  | exit i => cases hk

/-- A contract says of a function's meaning there alone. -/
theorem Con.of {Fn' : Fns} {f : Nat} {s : Sig} (h : Con P Fn f s) (he : ∀ ds, Fn' f ds = Fn f ds) : Con P Fn' f s :=
  fun w sh args ds rs L hsh hr hn hL hd => h w sh args ds rs L hsh hr hn hL (by rw [← he]; exact hd)

/-- The functions of a table, k calls deep, n rounds a loop; B: functions whose contracts are proved apart. -/
noncomputable def level (S : Nat → Option Sig) (B : Fns) (T : Nat → Option (Sig × IR)) (N : Nat) : Nat → Fns
  | 0 => fun f ds => if (S f).isSome then B f ds else none
  | k + 1 => fun f ds => if (S f).isSome then B f ds else match T f with
    | some (s, ir) => fnDen (level S B T N k) N ir s ds
    | none => none

/-- The shapes of a table. -/
def shapes (S : Nat → Option Sig) (T : Nat → Option (Sig × IR)) (f : Nat) : Option Sig := match S f with | some s => some s | none => (T f).map (·.1)

/-- EVERY FUNCTION OF A TABLE KEEPS ITS CONTRACT. -/
theorem level_con {S : Nat → Option Sig} {B : Fns} {T : Nat → Option (Sig × IR)} (hm : P.follows .mixedOrders = true) (hS : ∀ f s, S f = some s → Con P B f s)
    (hT : ∀ f s ir, T f = some (s, ir) → ∃ fn H, P.funcs[f]? = some fn ∧ fnIR P (shapes S T) H fn s = some ir) : ∀ (k : Nat) (f : Nat) (s : Sig), shapes S T f = some s → Con P (level S B T N k) f s
  | k, f, s, h => by
    unfold shapes at h
    cases hsf : S f with
    | some s' =>
      rw [hsf] at h
      simp only [Option.some.injEq] at h
      subst h
      exact (hS f s' hsf).of (fun ds => by cases k <;> simp [level, hsf])
    | none =>
      rw [hsf] at h
      dsimp only at h
      cases k with
      | zero =>
        intro w sh args ds rs L _ _ _ _ h
        simp [level, hsf] at h
      | succ k =>
        obtain ⟨⟨s', ir⟩, hTf, rfl⟩ := Option.map_eq_some_iff.1 h
        obtain ⟨fn, H, h1, h2⟩ := hT f s' ir hTf
        refine con_of_ir (Fn := level S B T N k) (N := N) hm (fun f s h => level_con hm hS hT k f s h) h1 h2 (fun ds rs hd => ?_)
        simp only [level, hsf, Option.isSome_none, Bool.false_eq_true, if_false, hTf] at hd
        exact hd

end
end Go.Vm
