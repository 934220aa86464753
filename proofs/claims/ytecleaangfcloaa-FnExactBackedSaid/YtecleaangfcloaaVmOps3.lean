/- Each operation does what its name says: assignments, stores, loads. Lemmas alone, no statement. -/
import Derived.Test.YtecleaangfcloaaVmRw
namespace Go.Vm
set_option linter.unusedVariables false
set_option linter.unusedSimpArgs false
open Go.RowKit

section
variable {P : Program} {C : Nat → Option Sig} {Fn : Fns} {sh0 : Nat → Prop} {w0 : World} {G0 : List Nat} {ρ : List Dy} {σ : Sg} {a : Act} {w w' : World}
  {sh : Nat → Prop} {F : Bool → Nat → List Nat} {β : Nat → Nat} {o : Oper} {st : Step} {l : List (Bool × Nat)} {d : Nat} {Q : Exit → Act → World → Prop}

/-- A taken value leaves nothing but forgotten slots. -/
def Take.mild (k : Take) : Prop := ∀ y ∈ k.wr, y.2 = .undef

theorem takeV_mild {t : TypeId} {x : Operand} {k : Take} (ho : takeV P t x σ = some (k, l)) : k.mild := by
  unfold takeV at ho
  obtain ⟨s, l1, l2, h1, ho2, _⟩ := Rd.bind_some ho
  cases s with
  | «at» y m =>
    cases m with
    | sh => have := Rd.pure_some ho2; subst this; intro y hy; simp at hy
    | own m => cases x with
      | tmp i => have := Rd.pure_some ho2; subst this; intro y hy; simp at hy; subst hy; rfl
      | _ => have := Rd.pure_some ho2; subst this; intro y hy; simp at hy
    | pair m1 m2 => cases x with
      | tmp i => have := Rd.pure_some ho2; subst this; intro y hy; simp at hy; subst hy; rfl
      | _ => have := Rd.pure_some ho2; subst this; intro y hy; simp at hy
  | rf b r c =>
    cases b with
    | false =>
      obtain ⟨s2, l3, l4, h2, ho3, _⟩ := Rd.bind_some ho2
      cases s2 with
      | «at» y m =>
        cases m with
        | own m => have := Rd.pure_some ho3; subst this; intro y hy; simp at hy; subst hy; rfl
        | _ => cases ho3
      | _ => cases ho3
    | true =>
      obtain ⟨cs, l3, l4, h2, ho3, _⟩ := Rd.bind_some ho2
      cases hy : cs[c]? with
      | none => rw [hy] at ho3; cases ho3
      | some yy => ?_
      rw [hy] at ho3
      match yy, ho3 with
      | none, ho3 => cases ho3
      | some (y, .sh), ho3 => cases ho3
      | some (y, .pair _ _), ho3 => cases ho3
      | some (y, .own m), ho3 => have := Rd.pure_some ho3; subst this; intro y hy; simp at hy
  | _ => cases ho2

theorem kill_putB (σ : Sg) (x : Nat × Bx) (k : Nat × Nat) : (σ.putB x).kill k = (σ.kill k).putB x := rfl
theorem putB_putS (σ : Sg) (x : Nat × Bx) (y : Nat × SV) : (σ.putS y).putB x = (σ.putB x).putS y := rfl

theorem kills_putBs (K : List (Nat × Nat)) : ∀ (B : List (Nat × Bx)) (σ : Sg), K.foldl Sg.kill (B.foldl Sg.putB σ) = B.foldl Sg.putB (K.foldl Sg.kill σ) := by
  induction K with
  | nil => intro B σ; rfl
  | cons k K ih =>
    intro B σ
    have h1 : ∀ (B : List (Nat × Bx)) (σ : Sg), (B.foldl Sg.putB σ).kill k = B.foldl Sg.putB (σ.kill k) := by
      intro B; induction B with
      | nil => intro σ; rfl
      | cons b B ih => intro σ; exact ih (σ.putB b)
    rw [List.foldl_cons, h1, ih]; rfl

theorem kills_putSs (K : List (Nat × Nat)) : ∀ (W : List (Nat × SV)) (σ : Sg), (∀ y ∈ W, y.2 = .undef) → K.foldl Sg.kill (W.foldl Sg.putS σ) = W.foldl Sg.putS (K.foldl Sg.kill σ) := by
  induction K with
  | nil => intro W σ _; rfl
  | cons k K ih =>
    intro W σ hW
    have h1 : ∀ (W : List (Nat × SV)) (σ : Sg), (∀ y ∈ W, y.2 = .undef) → (W.foldl Sg.putS σ).kill k = W.foldl Sg.putS (σ.kill k) := by
      intro W; induction W with
      | nil => intro σ _; rfl
      | cons y W ih =>
        intro σ hW
        rw [List.foldl_cons, ih _ (fun z hz => hW z (List.mem_cons_of_mem _ hz)), putS_kill _ _ _ (hW y (by simp))]
        rfl
    rw [List.foldl_cons, h1 W σ hW, ih W _ hW]; rfl

theorem putBs_putSs (B : List (Nat × Bx)) : ∀ (W : List (Nat × SV)) (σ : Sg), B.foldl Sg.putB (W.foldl Sg.putS σ) = W.foldl Sg.putS (B.foldl Sg.putB σ) := by
  induction B with
  | nil => intro W σ; rfl
  | cons b B ih =>
    intro W σ
    have h1 : ∀ (W : List (Nat × SV)) (σ : Sg), (W.foldl Sg.putS σ).putB b = W.foldl Sg.putS (σ.putB b) := by
      intro W; induction W with
      | nil => intro σ; rfl
      | cons y W ih => intro σ; exact ih (σ.putS y)
    rw [List.foldl_cons, h1, ih]; rfl

theorem apply_take {k : Take} (hk : k.mild) (em : List Em) (K : List (Nat × Nat)) (B : List (Nat × Bx)) (W : List (Nat × SV)) :
    σ.apply { em := em, kill := k.kill ++ K, bx := k.bx ++ B, wr := k.wr ++ W } = W.foldl Sg.putS (B.foldl Sg.putB (K.foldl Sg.kill (σ.take k))) := by
  unfold Sg.apply Sg.take
  rw [List.foldl_append, List.foldl_append, List.foldl_append, kills_putSs K _ _ hk, kills_putBs K, putBs_putSs B]

theorem sound_assign {t : TypeId} {x : Operand} (h : InvG sh0 w0 G0 ρ σ a w sh F β) (hop : o.op = .assign x)
    (hs : stAssign P o.dst t x σ = some (st, l)) : o.wp P a w (Inv sh0 w0 G0 ρ (σ.apply st)) Q := by
  have hrun : (execOp a.eval o).run P w = .ok (.value (a.eval x)) w := by unfold execOp; rw [hop]; rfl
  refine wp_value hrun ?_
  unfold stAssign at hs
  obtain ⟨d, l1, l2, h1, hs1, _⟩ := Rd.bind_some hs
  have hd := Rd.ofO_some h1
  rw [hd]
  obtain ⟨s, l3, l4, h2, hs2, _⟩ := Rd.bind_some hs1
  have hval : ∀ {l5 : List (Bool × Nat)}, (do
      let k ← takeV P t x
      let _ ← Rd.slot d
      pure { kill := k.kill ++ [(0, d)], bx := k.bx, wr := k.wr ++ [(d, .undef), (d, .at k.x k.m)] } : Rd Step) σ = some (st, l5) → Inv sh0 w0 G0 ρ (σ.apply st) (a.put (some d) (a.eval x)) w := by
    intro l5 hs
    obtain ⟨k, l6, l7, h3, hs3, _⟩ := Rd.bind_some hs
    obtain ⟨s0, l8, l9, h4, hs4, _⟩ := Rd.bind_some hs3
    have := Rd.pure_some hs4
    subst this
    have hlt : d < σ.slots.length := (List.getElem?_eq_some_iff.1 (Rd.slot_some h4)).1
    obtain ⟨F', X, dy, hI, e1, e2, x1, x2, x3, x4⟩ := take_rep h h3
    have happ := apply_take (σ := σ) (takeV_mild h3) [] [(0, d)] [] [(d, .undef), (d, .at k.x k.m)]
    rw [List.append_nil] at happ
    rw [happ]
    have hI2 := (hI.kill (0, d)).forgetSlot (d := d) killed0
    have hlen : (σ.take k).slots.length = σ.slots.length := by rw [← hI.size, h.size]
    have hdok : DstOk (((σ.take k).kill (0, d)).putS (d, .undef)) d := by
      have hl : d < ((σ.take k).kill (0, d)).slots.length := by simp [Sg.kill, mapR_eq, hlen]; exact hlt
      refine ⟨by simpa [Sg.putS, setR_eq] using hl, fun y m hy => ?_⟩
      simp only [Sg.putS, setR_eq] at hy
      rw [List.getElem?_set_self hl] at hy
      simp at hy
    refine ⟨_, _, _, hI2.put (d := d) (s := .at k.x k.m) (X := X) hdok ⟨dy, e1, e2⟩ (by simp [roots]) trivial x1 x2 (fun b hb i j _ => ?_)⟩
    unfold setF
    split
    · simp
    · exact x3 b hb i j
  cases s with
  | ptr r f =>
    obtain ⟨d', l5, l6, h3, hs3, _⟩ := Rd.bind_some hs2
    have := Rd.pure_some hs3
    subst this
    obtain ⟨e1, e2⟩ := dstOf_some h3
    rw [hd] at e1
    simp only [Option.some.injEq] at e1
    subst e1
    exact ⟨_, _, _, h.put_none e2 (s := .ptr _ _) ⟨rfl, opnd_ptr h h2⟩⟩
  | psh y f =>
    obtain ⟨d', l5, l6, h3, hs3, _⟩ := Rd.bind_some hs2
    have := Rd.pure_some hs3
    subst this
    obtain ⟨e1, e2⟩ := dstOf_some h3
    rw [hd] at e1
    simp only [Option.some.injEq] at e1
    subst e1
    exact ⟨_, _, _, h.put_none e2 (s := .psh _ _) (opnd_psh h h2)⟩
  | undef => exact hval hs2
  | void => exact hval hs2
  | «at» _ _ => exact hval hs2
  | rf _ _ _ => exact hval hs2
  | pel _ _ _ _ _ _ => exact hval hs2
  | vw _ _ _ => exact hval hs2
  | tup _ => exact hval hs2

theorem take_boxes {t : TypeId} {x : Operand} {k : Take} {r : Nat} (h : takeV P t x σ = some (k, l)) (hr : ∀ y ∈ k.bx, y.1 ≠ r) : (σ.take k).boxes[r]? = σ.boxes[r]? := by
  unfold Sg.take
  have h1 : ∀ (W : List (Nat × SV)) (σ : Sg), (W.foldl Sg.putS σ).boxes = σ.boxes := by intro W; induction W with | nil => intro σ; rfl | cons y W ih => intro σ; exact ih _
  have h2 : ∀ (K : List (Nat × Nat)) (σ : Sg), (K.foldl Sg.kill σ).boxes = σ.boxes := by intro W; induction W with | nil => intro σ; rfl | cons y W ih => intro σ; exact ih _
  have h3 : ∀ (B : List (Nat × Bx)) (σ : Sg), (∀ y ∈ B, y.1 ≠ r) → (B.foldl Sg.putB σ).boxes[r]? = σ.boxes[r]? := by
    intro B; induction B with
    | nil => intro σ _; rfl
    | cons y B ih =>
      intro σ hB
      rw [List.foldl_cons, ih _ (fun z hz => hB z (List.mem_cons_of_mem _ hz))]
      simp only [Sg.putB, setR_eq]
      rw [List.getElem?_set_ne (hB y (by simp))]
  rw [h1, h3 _ _ hr, h2]

theorem as_inv {d : Dy} {τ : Ty} {z : D τ} (h : d.as τ = some z) : d = ⟨τ, z⟩ := by
  unfold Dy.as at h
  split at h
  · rename_i heq
    simp only [Option.some.injEq] at h
    obtain ⟨τ', x⟩ := d
    dsimp only at heq
    subst heq
    subst h
    rfl
  · cases h

theorem setE_inv {m : Nat} {d1 d2 d3 dy : Dy} (h : evX (.setE m) [d1, d2, d3] = some dy) :
    ∃ (e : Ty) (l : D (.sl e)) (k : IntKind) (n : Int) (z : D e), d1 = ⟨.sl e, l⟩ ∧ d2 = ⟨.int k, n⟩ ∧ d3 = ⟨e, z⟩ ∧ e.n = m ∧ 0 ≤ n ∧ n.toNat < List.length l ∧ dy = ⟨.sl e, List.set l n.toNat z⟩ := by
  obtain ⟨τ1, x1⟩ := d1
  obtain ⟨τ2, x2⟩ := d2
  cases τ1 <;> first | (simp [evX] at h; done) | (cases τ2 <;> first | (simp [evX] at h; done) | skip)
  rename_i e k
  simp only [evX] at h
  split at h
  · rename_i hc
    split at h
    · rename_i z hz
      simp only [Option.some.injEq] at h
      exact ⟨e, x1, k, x2, z, rfl, rfl, as_inv hz, hc.1, hc.2.1, hc.2.2, h.symm⟩
    · cases h
  · cases h

theorem sound_store {t : TypeId} {p x : Operand} {nv : Nat} (h : InvG sh0 w0 G0 ρ σ a w sh F β) (hop : o.op = .store t p x) (hd : o.dst = none)
    (hs : stStore P nv t p x σ = some (st, l)) (he : EmOk Fn ρ nv st.em) : o.wp P a w (Inv sh0 w0 G0 ρ (σ.apply st)) Q := by
  unfold stStore at hs
  obtain ⟨sv, l1, l2, h1, hs1, _⟩ := Rd.bind_some hs
  split at hs1
  · rename_i r f
    obtain ⟨k, l3, l4, h2, hs2, _⟩ := Rd.bind_some hs1
    obtain ⟨b, l5, l6, h3, hs3, _⟩ := Rd.bind_some hs2
    obtain ⟨_, l7, l8, h4, hs4, _⟩ := Rd.bind_some hs3
    have hgb := Rd.guard_some h4
    have hb := Rd.box_some h3
    have hp := opnd_ptr h h1
    obtain ⟨F', X, d1, hI, e1, r1, x1, x2, x3, x4⟩ := take_rep h h2
    have hb1 : (σ.take k).boxes[r]? = some (some b) := by
      rw [take_boxes h2 (fun y hy => by have := List.all_eq_true.1 hgb y hy; simpa using this)]
      exact hb
    have hfin : ∀ w', (storeVar t ⟨β r, f, none⟩ (a.eval x)).run P w = .ok () w' → (execOp a.eval o).run P w = .ok .skip w' := by
      intro w' hw
      unfold execOp
      rw [hop]
      simp only [Instr.storeAt, hp, Instr.sureAddr, Sem.run_bind, Sem.run_pure, Result.andThen_ok, hw]
    -- the store itself
    have hgo : ∀ (em : List Em) (cells : List Cell) (us : List Value), RepL (one (CellRep sh w ρ)) cells us X → f + cells.length ≤ b.length → (∀ u ∈ us, u.oneCell' = true) → (a.eval x).cells.toList = us → P.cellsOf t = cells.length → cells.length ≠ 0 →
        st = { em := em, kill := k.kill ++ (if b.any Cell.isOwn then [(2, r)] else []), bx := k.bx ++ [(r, some (b.take f ++ cells ++ b.drop (f + cells.length)))], wr := k.wr } → o.wp P a w (Inv sh0 w0 G0 ρ (σ.apply st)) Q := by
      intro em cells us hrep hle hone hv hn h0 hst
      have hst' : st = { em := em, kill := k.kill ++ (if b.any Cell.isOwn then [(2, r)] else []), bx := k.bx ++ [(r, some (b.take f ++ cells ++ b.drop (f + cells.length)))], wr := k.wr ++ [] } := by rw [hst, List.append_nil]
      rw [hst', apply_take (takeV_mild h2)]
      cases hany : b.any Cell.isOwn with
      | true =>
        simp only [if_true]
        obtain ⟨w', hrun, hinv⟩ := (hI.kill (2, r)).storebox (P := P) (f := f) (t := t) killed2 hb1 hrep x1 x2 x3 hle hone hv hn h0
        refine wp_skip' (hfin w' hrun) ?_
        rw [hd]
        exact hinv
      | false =>
        simp only [Bool.false_eq_true, if_false]
        obtain ⟨w', hrun, hinv⟩ := hI.storebox (P := P) (f := f) (t := t) (hI.noalias hb1 hany) hb1 hrep x1 x2 x3 hle hone hv hn h0
        refine wp_skip' (hfin w' hrun) ?_
        rw [hd]
        exact hinv
    cases hagg : isAggB P t with
    | true =>
      simp only [hagg, if_true] at hs4
      obtain ⟨_, l9, l10, h5, hs5, _⟩ := Rd.bind_some hs4
      have hg := Rd.guard_some h5
      have := Rd.pure_some hs5
      simp only [Bool.and_eq_true, decide_eq_true_eq, bne_iff_ne] at hg
      have hem : EmOk Fn ρ nv [.e ⟨.all (P.cellsOf t), [k.x]⟩] := by rw [← this] at he; exact he
      obtain ⟨dy, k1, k2⟩ := hem.1
      unfold ev at k1
      simp only [evAs, e1] at k1
      obtain ⟨vs, hvs, hl, hrep, hone⟩ := all_rep k1 r1 k2
      have hcl : (cellsM (.var nv) 0 k.m (P.cellsOf t)).length = P.cellsOf t := cellsM_length
      exact hgo _ _ vs hrep (by rw [hcl]; exact hg.1) hone hvs hcl.symm (by rw [hcl]; exact hg.2) (by rw [hcl]; exact this.symm)
    | false =>
      simp only [hagg, Bool.false_eq_true, if_false] at hs4
      obtain ⟨_, l9, l10, h5, hs5, _⟩ := Rd.bind_some hs4
      have hg := Rd.guard_some h5
      have := Rd.pure_some hs5
      simp only [Bool.and_eq_true, decide_eq_true_eq, beq_iff_eq] at hg
      have hem : EmOk Fn ρ nv [.e ⟨.atom, [k.x]⟩] := by rw [← this] at he; exact he
      obtain ⟨dy, k1, k2⟩ := hem.1
      unfold ev at k1
      simp only [evAs, e1, evX] at k1
      split at k1
      · cases k1
      · rename_i hna
        simp only [Option.some.injEq] at k1
        subst k1
        have hna : d1.1.isAgg = false := by simpa using hna
        obtain ⟨vs, hv, hr⟩ := r1
        obtain ⟨u, rfl⟩ := hr.single hna
        have hv : a.eval x = u := by rw [hv, hna]; rfl
        refine hgo _ [some (.var nv, k.m)] [u] ⟨[u], [], X, [], rfl, by simp, ⟨u, rfl, d1, k2, hna, hr⟩, rfl, rfl⟩ hg.1 (fun y hy => Rep.one' hr y hy) (by rw [hv, atom_cells hna hr]) hg.2 (by simp) this.symm
  · rename_i b r c m i f
    obtain ⟨⟨x0, mm⟩, l3, l4, h2, hs2, _⟩ := Rd.bind_some hs1
    obtain ⟨y, l5, l6, h3, hs3, _⟩ := Rd.bind_some hs2
    obtain ⟨_, l7, l8, h4, hs4, _⟩ := Rd.bind_some hs3
    have hg := Rd.guard_some h4
    simp only [Bool.and_eq_true, beq_iff_eq, bne_iff_ne] at hg
    obtain ⟨⟨⟨hmm, rfl⟩, hm⟩, hm0⟩ := hg
    have hmm : mm = .sh := by cases mm <;> simp [Md.isSh] at hmm; rfl
    subst hmm
    obtain ⟨⟨_, g, len, cap, k, n, e1, e2, e3, e4, e5⟩, hro⟩ := opnd_pel (i := p) h h1
    have hroot := rootA_some h2
    obtain ⟨d1, G, q1, r1, _⟩ := root_rep h hroot e1
    obtain ⟨d2, q2, r2⟩ := lookSh_rep h h3
    have hfin : ∀ w', (storeVar t ⟨g, m * n.toNat + 0, none⟩ (a.eval x)).run P w = .ok () w' → (execOp a.eval o).run P w = .ok .skip w' := by
      intro w' hw
      unfold execOp
      rw [hop]
      simp only [Instr.storeAt, e5, Instr.sureAddr, Sem.run_bind, Sem.run_pure, Result.andThen_ok, hw]
    have hgo : ∀ (em : List Em), EmOk Fn ρ nv (.e ⟨.setE m, [x0, i, y]⟩ :: em) → ∃ w', (storeVar t ⟨g, m * n.toNat + 0, none⟩ (a.eval x)).run P w = .ok () w' ∧
      ElDone sh0 w0 G0 ρ σ a w' (.var nv) r c b := by
      intro em hem
      obtain ⟨dy, k1, k2⟩ := hem.1
      unfold ev at k1
      simp only [evAs, q1, e2, q2] at k1
      obtain ⟨τ, xs, k', n', z, rfl, hn', rfl, hτ, hn0, hlt, rfl⟩ := setE_inv k1
      simp only [Sigma.mk.injEq, Ty.int.injEq] at hn'
      obtain ⟨rfl, hn'⟩ := hn'
      have hn' : n = n' := by simpa using hn'
      subst hn'
      have := h.storeEl (P := P) (t := t) (x1 := .var nv) (z := z) (n := n.toNat) (v := a.eval x) hroot e1 q1 hlt r2 (by rw [hm, hτ]) (by rw [hτ]; exact hm0) k2
      rw [hτ] at this
      exact this
    cases b with
    | false =>
      have := Rd.pure_some hs4
      subst this
      obtain ⟨w', hw, hI⟩ := hgo _ he
      refine wp_skip' (hfin w' hw) ?_
      rw [hd]
      exact hI
    | true =>
      obtain ⟨bx, l9, l10, h5, hs5, _⟩ := Rd.bind_some hs4
      have hbx := Rd.box_some h5
      have := Rd.pure_some hs5
      subst this
      obtain ⟨w', hw, hI⟩ := hgo _ he
      refine wp_skip' (hfin w' hw) ?_
      rw [hd]
      exact hI _ hbx
  · cases hs1

/-- A part of a value is read. -/
theorem load_agg {t : TypeId} {nv f : Nat} {dd : Dy} {c : A} {b o' : Nat} {ar : Array Value} {ty : TypeId} {fz : Nat × Nat} (h : InvG sh0 w0 G0 ρ σ a w sh F β) (hd : o.dst = some d) (hlt : DstOk σ d)
    (e1 : evA ρ c = some dd) (e4 : w.heap[b]? = some (.cells ar ty fz)) (e5 : Rep sh w dd.1 .sh dd.2 ((ar.toList.drop o').take dd.1.n) []) (e6 : o' + dd.1.n ≤ ar.size)
    (hfin : ∀ v, (loadVar t ⟨b, o' + f, none⟩).run P w = .ok v w → (execOp a.eval o).run P w = .ok (.value v) w) (hagg : isAggB P t = true) (hnz : P.cellsOf t ≠ 0)
    (he : EmOk Fn ρ nv [.e ⟨.cells f (P.cellsOf t), [c]⟩]) : o.wp P a w (Inv sh0 w0 G0 ρ (σ.putS (d, .at (.var nv) .sh))) Q := by
  refine sound_e h hd hlt he fun ds dy hds hev => ?_
  obtain ⟨d1', q1, rfl⟩ := evAs1 hds
  obtain rfl := some_eq e1 q1
  simp only [evX] at hev
  cases hcs : cellsAt dd f (P.cellsOf t) with
  | none => rw [hcs] at hev; cases hev
  | some cs =>
    rw [hcs] at hev
    have hat := cellsAt_rep e5 hcs
    have hlen := hat.length
    have hcl := cellsAt_len hcs
    obtain ⟨r1, r2, r3, r4⟩ := ofCells_rep hat hev
    have hl2 : ((ar.toList.drop o').take dd.1.n).length = dd.1.n := e5.len
    have hfit : f + P.cellsOf t ≤ dd.1.n := by
      rw [hcl, List.length_take, List.length_drop, hl2] at hlen
      omega
    refine ⟨_, hfin _ (loadVar_agg hagg e4 rfl hnz (by omega)), _, by rw [r2]; rfl, ?_⟩
    have : (((ar.toList.drop o').take dd.1.n).drop f).take (P.cellsOf t) = (ar.toList.drop (o' + f)).take (P.cellsOf t) := by
      rw [List.drop_take, List.take_take, List.drop_drop, Nat.min_eq_left (by omega)]
    rw [← this]
    exact r1

theorem load_atom {t : TypeId} {nv f : Nat} {dd : Dy} {c : A} {b o' : Nat} {ar : Array Value} {ty : TypeId} {fz : Nat × Nat} (h : InvG sh0 w0 G0 ρ σ a w sh F β) (hd : o.dst = some d) (hlt : DstOk σ d)
    (e1 : evA ρ c = some dd) (e4 : w.heap[b]? = some (.cells ar ty fz)) (e5 : Rep sh w dd.1 .sh dd.2 ((ar.toList.drop o').take dd.1.n) [])
    (hfin : ∀ v, (loadVar t ⟨b, o' + f, none⟩).run P w = .ok v w → (execOp a.eval o).run P w = .ok (.value v) w) (hna : notAggB P t = true)
    (he : EmOk Fn ρ nv [.e ⟨.a, [.fld c f]⟩]) : o.wp P a w (Inv sh0 w0 G0 ρ (σ.putS (d, .at (.var nv) .sh))) Q := by
  refine sound_e h hd hlt he fun ds dy hds hev => ?_
  obtain ⟨d1', q1, rfl⟩ := evAs1 hds
  simp only [evX, Option.some.injEq] at hev
  subst hev
  simp only [evA, e1] at q1
  obtain ⟨v, hv, hat⟩ := cell_rep e5 q1
  have hcf : ar[o' + f]? = some v := by
    rw [List.getElem?_take] at hv
    split at hv
    · rw [List.getElem?_drop] at hv
      simpa using hv
    · cases hv
  exact ⟨v, hfin _ (loadVar_atom hna e4 hcf), valRep_atom hat⟩

theorem sound_load {t : TypeId} {x : Operand} {nv : Nat} (h : InvG sh0 w0 G0 ρ σ a w sh F β) (hop : o.op = .load t x) (hd : o.dst = some d) (hlt : DstOk σ d)
    (hs : stLoad P nv d t x σ = some (st, l)) (he : EmOk Fn ρ nv st.em) : o.wp P a w (Inv sh0 w0 G0 ρ (σ.apply st)) Q := by
  unfold stLoad at hs
  obtain ⟨sv, l1, l2, h1, hs1, _⟩ := Rd.bind_some hs
  have hfin : ∀ b f v, a.eval x = .pointer (some ⟨b, f, none⟩) → (loadVar t ⟨b, f, none⟩).run P w = .ok v w → (execOp a.eval o).run P w = .ok (.value v) w := by
    intro b f v hx hv
    unfold execOp
    rw [hop]
    simp only [Instr.loadAt, hx, Instr.sureAddr, Sem.run_bind, Sem.run_pure, Result.andThen_ok, hv]
  split at hs1
  · rename_i r f
    obtain ⟨b, l3, l4, h2, hs2, _⟩ := Rd.bind_some hs1
    have hb := Rd.box_some h2
    have hp := opnd_ptr h h1
    obtain ⟨c, ty, F', k1, k2, k3⟩ := h.box r b hb
    have hsz : c.size = b.length := by
      have := RepL.len (n := 1) (fun x vs F hh => by obtain ⟨v, rfl, _⟩ := hh; rfl) k3
      simpa using this
    cases hagg : isAggB P t with
    | true =>
      simp only [hagg, if_true] at hs2
      obtain ⟨_, l5, l6, h3, hs3, _⟩ := Rd.bind_some hs2
      have hg := Rd.guard_some h3
      obtain ⟨xs, l7, l8, h4, hs4, _⟩ := Rd.bind_some hs3
      have hxs := Rd.ofO_some h4
      have := Rd.pure_some hs4
      subst this
      simp only [Bool.and_eq_true, decide_eq_true_eq, bne_iff_ne] at hg
      obtain ⟨G, hG, hsub⟩ := RepL.sub (R := CellRep sh w ρ) f (P.cellsOf t) k3
      obtain ⟨ds, hds, hat⟩ := shCells_rep hxs hsub
      refine sound_e h hd hlt he fun ds' dy hds' hev => ?_
      obtain rfl := some_eq hds hds'
      simp only [evX] at hev
      obtain ⟨q1, q2, q3, q4⟩ := ofCells_rep hat hev
      exact ⟨_, hfin _ _ _ hp (loadVar_agg hagg k1 rfl hg.2 (by omega)), _, by rw [q2]; rfl, q1⟩
    | false =>
      simp only [hagg, Bool.false_eq_true, if_false] at hs2
      obtain ⟨_, l5, l6, h3, hs3, _⟩ := Rd.bind_some hs2
      have hna := Rd.guard_some h3
      cases hy : b[f]? with
      | none => rw [hy] at hs3; cases hs3
      | some yy => ?_
      rw [hy] at hs3
      match yy, hy, hs3 with
      | none, _, hs3 => cases hs3
      | some (y, .own m), hy, hs3 =>
        have := Rd.pure_some hs3
        subst this
        obtain ⟨v, A, X, B, hcf, _, _, _⟩ := RepL.pick (y := (none : Cell)) (fun _ => rfl) k3 hy
        have hcf : c[f]? = some v := by simpa using hcf
        refine wp_value (hfin _ _ _ hp (loadVar_atom hna k1 hcf)) ?_
        rw [hd]
        exact ⟨_, _, _, h.put_none hlt (s := .rf true r f) ⟨rfl, by rw [k2]; simp, by simp [World.cell?, k1, hcf]⟩ (by simp [roots]) ⟨b, hb, by rw [hy]; trivial⟩⟩
      | some (y, .pair _ _), _, hs3 => cases hs3
      | some (y, .sh), hy, hs3 =>
        have := Rd.pure_some hs3
        subst this
        obtain ⟨G, hG, hget⟩ := RepL.get (n := 1) (fun x vs F hh => by obtain ⟨v, rfl, _⟩ := hh; rfl) k3 hy
        obtain ⟨v, hv, dy, e1, e2, e3⟩ := hget
        have hcf : c[f]? = some v := by
          have := congrArg List.head? hv
          simp [List.head?_take, List.head?_drop] at this
          simpa using this
        refine wp_value (hfin _ _ _ hp (loadVar_atom hna k1 hcf)) ?_
        rw [hd]
        have := e3.sh_nil
        rw [this] at e3
        exact h.putSh hlt e1 (valRep_atom ⟨e2, e3⟩)
  · rename_i b r c m i f
    obtain ⟨⟨x0, mm⟩, l3, l4, h2, hs2, _⟩ := Rd.bind_some hs1
    obtain ⟨_, l5, l6, h3, hs3, _⟩ := Rd.bind_some hs2
    have hg := Rd.guard_some h3
    simp only [Bool.and_eq_true, bne_iff_ne] at hg
    obtain ⟨hmm, hnz⟩ := hg
    have hmm : mm = .sh := by cases mm <;> simp [Md.isSh] at hmm; rfl
    subst hmm
    obtain ⟨⟨_, g, len, cap, k, n, e1, e2, e3, e4, e5⟩, hro⟩ := opnd_pel (i := x) h h1
    obtain ⟨d1, G, q1, r1, _⟩ := root_rep h (rootA_some h2) e1
    -- the element
    have hidx : ∀ (em : List Em), EmOk Fn ρ nv (.e ⟨.idx m, [x0, i]⟩ :: em) → ∃ (τ : Ty) (y : D τ) (ar : Array Value) (ty : TypeId) (fz : Nat × Nat), ρ[nv]? = some ⟨τ, y⟩ ∧ τ.n = m ∧ w.heap[g]? = some (.cells ar ty fz) ∧
        Rep sh w τ .sh y ((ar.toList.drop (m * n.toNat)).take τ.n) [] ∧ (τ.n ≠ 0 → m * n.toNat + τ.n ≤ ar.size) := by
      intro em hem
      obtain ⟨dy, k1, k2⟩ := hem.1
      unfold ev at k1
      simp only [evAs, q1, e2] at k1
      obtain ⟨τ, xs, k', n', y, rfl, hn', hm, hn0, hy, rfl⟩ := idx_inv k1
      simp only [Sigma.mk.injEq, Ty.int.injEq] at hn'
      obtain ⟨rfl, hn'⟩ := hn'
      have hn' : n = n' := by simpa using hn'
      subst hn'
      obtain ⟨g', cap', ar, ty, fz, G', hv, hgG, hw, hr, hle⟩ := own_elem r1 hy
      simp only [Value.slice.injEq, Option.some.injEq, Addr.mk.injEq, and_true] at hv
      obtain ⟨rfl, rfl, rfl⟩ := hv
      have hG := hr.sh_nil
      subst hG
      exact ⟨τ, y, ar, ty, fz, k2, hm, hw, by rw [← hm]; exact hr, by rw [← hm]; exact hle⟩
    cases hagg : isAggB P t with
    | true =>
      simp only [hagg, if_true] at hs3
      have := Rd.pure_some hs3
      subst this
      obtain ⟨τ, y, ar, ty, fz, p1, p2, p3, p4, p5⟩ := hidx _ he
      obtain ⟨dy, k1, k2⟩ := he.2.1
      have hτ : τ.n ≠ 0 := by
        intro h0
        unfold ev at k1
        simp only [evAs, evA, p1, evX] at k1
        cases hcs : cellsAt ⟨τ, y⟩ f (P.cellsOf t) with
        | none => rw [hcs] at k1; cases k1
        | some cs =>
          have hat := (cellsAt_rep p4 hcs).length
          have hl := cellsAt_len hcs
          rw [h0] at hat
          simp at hat
          rw [hat] at hl
          exact hnz (by simpa using hl.symm)
      exact load_agg (nv := nv + 1) (f := f) (dd := ⟨τ, y⟩) (c := .var nv) h hd hlt p1 p3 p4 (p5 hτ) (fun v hv => hfin _ _ _ e5 hv) hagg hnz he.2
    | false =>
      simp only [hagg, Bool.false_eq_true, if_false] at hs3
      obtain ⟨_, l7, l8, h4, hs4, _⟩ := Rd.bind_some hs3
      have hg4 := Rd.guard_some h4
      simp only [Bool.and_eq_true, beq_iff_eq] at hg4
      have := Rd.pure_some hs4
      subst this
      obtain ⟨τ, y, ar, ty, fz, p1, p2, p3, p4, p5⟩ := hidx _ he
      exact load_atom (nv := nv + 1) (f := f) (dd := ⟨τ, y⟩) (c := .var nv) h hd hlt p1 p3 p4 (fun v hv => hfin _ _ _ e5 hv) hg4.1 he.2
  · rename_i c f
    obtain ⟨_, dd, b, o', ar, ty, fz, e1, e2, e3, e4, e5, e6⟩ := opnd_psh h h1
    cases hagg : isAggB P t with
    | true =>
      simp only [hagg, if_true] at hs1
      obtain ⟨_, l5, l6, h3, hs3, _⟩ := Rd.bind_some hs1
      have hg := Rd.guard_some h3
      have := Rd.pure_some hs3
      subst this
      exact load_agg h hd hlt e1 e4 e5 e6 (fun v hv => hfin _ _ _ e2 hv) hagg (by simpa using hg) he
    | false =>
      simp only [hagg, Bool.false_eq_true, if_false] at hs1
      obtain ⟨_, l5, l6, h3, hs3, _⟩ := Rd.bind_some hs1
      have hna := Rd.guard_some h3
      have := Rd.pure_some hs3
      subst this
      exact load_atom h hd hlt e1 e4 e5 (fun v hv => hfin _ _ _ e2 hv) hna he
  · cases hs1

theorem sound_pick {t : TypeId} {c x y : Operand} {nv : Nat} (h : InvG sh0 w0 G0 ρ σ a w sh F β) (hop : o.op = .pick c x y) (hd : o.dst = some d) (hlt : DstOk σ d)
    (hs : stPick P nv d t c x y σ = some (st, l)) (he : EmOk Fn ρ nv st.em) : o.wp P a w (Inv sh0 w0 G0 ρ (σ.apply st)) Q := by
  unfold stPick at hs
  obtain ⟨c1, l1, l2, h1, hs0, _⟩ := Rd.bind_some hs
  obtain ⟨d1, sqd1, m1, X1, e1, r1, _⟩ := look_rep h h1
  obtain ⟨kb, l7, l8, h0, hs1, _⟩ := Rd.bind_some hs0
  have hkn := Rd.known_some h0
  cases kb with
  | some b =>
    have hb := known_rep h hkn
    obtain rfl := some_eq e1 hb
    have hb : a.eval c = .bool b := valA_rep r1 rfl
    refine sound_moved (x := if b then x else y) h ?_ hd hlt hs1
    unfold execOp
    rw [hop]
    simp only [hb, asBool, Sem.run_bind, Sem.run_pure, Result.andThen_ok]
    cases b <;> rfl
  | none => ?_
  obtain ⟨c2, l3, l4, h2, hs2, _⟩ := Rd.bind_some hs1
  obtain ⟨c3, l5, l6, h3, hs3, _⟩ := Rd.bind_some hs2
  have := Rd.pure_some hs3
  subst this
  obtain ⟨d2, e2, r2⟩ := lookSh_rep h h2
  obtain ⟨d3, e3, r3⟩ := lookSh_rep h h3
  refine sound_e h hd hlt he fun ds dy hds hev => ?_
  obtain ⟨d1', d2', d3', k1, k2, k3, rfl⟩ := evAs3 hds
  obtain rfl := some_eq e1 k1
  obtain rfl := some_eq e2 k2
  obtain rfl := some_eq e3 k3
  obtain ⟨τ1, x1⟩ := d1
  cases τ1 with
  | bool =>
    simp only [evX] at hev
    cases hz : d3.as d2.1 with
    | none => rw [hz] at hev; cases hev
    | some z =>
      rw [hz] at hev
      simp only [Option.some.injEq] at hev
      subst hev
      have hb : a.eval c = .bool x1 := valA_rep r1 rfl
      refine ⟨if x1 then a.eval x else a.eval y, ?_, ?_⟩
      · unfold execOp
        rw [hop]
        simp only [hb, asBool, Sem.run_bind, Sem.run_pure, Result.andThen_ok]
      · unfold Dy.as at hz
        split at hz
        · rename_i heq
          simp only [Option.some.injEq] at hz
          subst hz
          obtain ⟨τ2, x2⟩ := d2
          obtain ⟨τ3, x3⟩ := d3
          dsimp only at heq
          subst heq
          cases x1 <;> simpa
        · cases hz
  | _ => simp [evX] at hev

theorem sound_extract {x : Operand} {i : Nat} (h : InvG sh0 w0 G0 ρ σ a w sh F β) (hop : o.op = .extract x i) (hd : o.dst = some d) (hlt : DstOk σ d)
    (hs : stExtract P d x i σ = some (st, l)) : o.wp P a w (Inv sh0 w0 G0 ρ (σ.apply st)) Q := by
  unfold stExtract at hs
  obtain ⟨s, l1, l2, h1, hs1, _⟩ := Rd.bind_some hs
  rcases opnd_rep h h1 with ⟨j, rfl, hsl, hr⟩ | ⟨c', dd, v0, _, hc, _, _⟩
  · cases s with
    | tup xs =>
      dsimp only at hs1
      cases hy : xs[i]? with
      | none => rw [hy] at hs1; cases hs1
      | some yy => ?_
      rw [hy] at hs1
      match yy, hy, hs1 with
      | (y, .own _), _, hs1 => cases hs1
      | (y, .pair _ _), _, hs1 => cases hs1
      | (y, .sh), hy, hs1 =>
        have := Rd.pure_some hs1
        subst this
        obtain ⟨vs, hv, hrep⟩ := hr
        obtain ⟨G, hG, hget⟩ := RepL.get (n := 1) (fun x vs F hh => by obtain ⟨v, rfl, _⟩ := hh; rfl) hrep hy
        obtain ⟨v, hvv, dy, e1, us, e2, e3⟩ := hget
        have hcf : vs[i]? = some v := by
          have := congrArg List.head? hvv
          simp [List.head?_take, List.head?_drop] at this
          simpa using this
        refine wp_value (v := v) (w' := w) ?_ ?_
        · unfold execOp
          rw [hop]
          simp [Instr.extract, hv, hcf]
        · rw [hd]
          have := e3.sh_nil
          rw [this] at e3
          exact h.putSh hlt e1 ⟨us, e2, e3⟩
    | _ => cases hs1
  · subst hc
    cases hs1

end
end Go.Vm
