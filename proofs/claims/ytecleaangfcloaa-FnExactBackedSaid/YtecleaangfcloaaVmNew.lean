/- Each operation does what its name says: new rows, structs, conversions. Lemmas alone, no statement. -/
import Derived.Test.YtecleaangfcloaaVmOps3
import Derived.Great.BuildSlice
namespace Go.Vm
set_option linter.unusedVariables false
set_option linter.unusedSimpArgs false
open Go.RowKit

section
variable {P : Program} {C : Nat → Option Sig} {Fn : Fns} {sh0 : Nat → Prop} {w0 : World} {G0 : List Nat} {ρ : List Dy} {σ : Sg} {a : Act} {w w' : World}
  {sh : Nat → Prop} {F : Bool → Nat → List Nat} {β : Nat → Nat} {o : Oper} {st : Step} {l : List (Bool × Nat)} {d : Nat} {Q : Exit → Act → World → Prop}

/-- A new row, put into a slot. -/
theorem InvG.newRow (h : InvG sh0 w0 G0 ρ σ a w sh F β) (hd : DstOk σ d) {τ : Ty} {l : D (.sl τ)} {ar : Array Value} {ty : TypeId} {fz : Nat × Nat} {cap : Nat} {c : A} (hb : Below w.heap.size w w')
    (hrow : OwnRow sh w' τ l w.heap.size cap ar ty fz) (hc : evA ρ c = some ⟨.sl τ, l⟩) :
    Inv sh0 w0 G0 ρ (σ.putS (d, .at c (.own .sh))) (a.put (some d) (.slice (some ⟨w.heap.size, 0, none⟩) (List.length l) cap)) w' := by
  have hg := h.grow hb
  refine ⟨_, _, _, hg.put (d := d) (s := .at c (.own .sh)) (X := [w.heap.size]) hd ⟨_, hc, hrow.val⟩ (by simp [roots]) trivial (by simp) (fun b hb' => ?_) (fun b hb' k j _ hm => ?_)⟩
  · obtain rfl : b = w.heap.size := by simpa using hb'
    exact ⟨.inr h.ext.size, lt_of_get hrow.heap, fun hs => Nat.lt_irrefl _ (h.sh_lt _ hs)⟩
  · obtain rfl : b = w.heap.size := by simpa using hb'
    exact Nat.lt_irrefl _ (h.own k j _ hm).2.1

theorem repL_grow {τ : Ty} {l : D (.sl τ)} {vs : List Value} (hs : ∀ b, sh b → b < w.heap.size) (hb : Below w.heap.size w w') (h : RepL (fun x vs F => Rep sh w τ .sh x vs F) l vs []) : RepL (fun x vs F => Rep sh w' τ .sh x vs F) l vs [] :=
  RepL.imp h (fun x vs G hG hh => Rep.frame (fun b hb' => ⟨hb', hb.block b (hs b hb')⟩) hh (fun b hb' => absurd (hG b hb') (by simp)))

/-- What a row's cells are, when they are read. -/
theorem el_cells {τ : Ty} {l : D (.sl τ)} {m : Md} {v : Value} {G : List Nat} (hm : m = .sh ∨ m = .own .sh) (h : ValRep sh w ⟨.sl τ, l⟩ m v G) :
    ∃ ad cap news, v = .slice ad (List.length l) cap ∧ news.length = List.length l * τ.n ∧ RepL (fun x vs F => Rep sh w τ .sh x vs F) l news [] ∧ (ad = none → news = []) ∧ ∀ a', ad = some a' → ∀ j u, news[j]? = some u → w.cell? (a'.add j) = some u := by
  obtain ⟨vs, rfl, hr⟩ := h
  rcases hm with rfl | rfl
  · obtain ⟨ad, cap, rfl, hc, _, hr⟩ := hr
    rcases hr with h0 | ⟨b, off, c, ty, fz, rfl, hb, hw, hr⟩
    · have h0 : l = [] := h0
      subst h0
      exact ⟨ad, cap, [], rfl, by simp, ⟨rfl, rfl⟩, fun _ => rfl, fun _ _ j u hu => by simp at hu⟩
    · have hr : RepL (fun x vs F => Rep sh w τ .sh x vs F) l ((c.toList.drop off).take (τ.n * List.length l)) [] := hr
      refine ⟨_, cap, _, rfl, by rw [RepL.len (fun x vs F h => Rep.len h) hr, Nat.mul_comm], hr, by simp, fun a' ha j u hu => ?_⟩
      simp only [Option.some.injEq] at ha
      subst ha
      rw [add_off]
      rw [List.getElem?_take] at hu
      split at hu
      · rw [List.getElem?_drop] at hu
        simp [World.cell?, hw]
        simpa using hu
      · cases hu
  · obtain ⟨ad, cap, rfl, hc, hr⟩ := hr
    rcases hr with ⟨h0, h1, h2⟩ | ⟨b, c, ty, fz, F', rfl, rfl, hw, hsz, hz, hr⟩
    · have h0 : l = [] := h0
      subst h0
      exact ⟨ad, cap, [], rfl, by simp, ⟨rfl, rfl⟩, fun _ => rfl, fun _ _ j u hu => by simp at hu⟩
    · have hF := RepL.empty (fun x vs G h => Rep.sh_nil h) hr
      subst hF
      have hr : RepL (fun x vs F => Rep sh w τ .sh x vs F) l (c.toList.take (τ.n * List.length l)) [] := hr
      refine ⟨_, cap, _, rfl, by rw [RepL.len (fun x vs F h => Rep.len h) hr, Nat.mul_comm], hr, by simp, fun a' ha j u hu => ?_⟩
      simp only [Option.some.injEq] at ha
      subst ha
      rw [add_off]
      rw [List.getElem?_take] at hu
      split at hu
      · simp [World.cell?, hw]
        simpa using hu
      · cases hu

theorem run_firstCells_of {size n : Nat} {ad : Option Addr} {len cap : Nat} {news : List Value} (hl : news.length = n * size) (h0 : ad = none → news = []) (h : ∀ a', ad = some a' → ∀ j u, news[j]? = some u → w.cell? (a'.add j) = some u) :
    (Builtin.firstCells size n (.slice ad len cap)).run P w = .ok news.toArray w := by
  cases ad with
  | none => rw [h0 rfl]; exact run_firstCells_none (P := P) w size n len cap
  | some b => exact run_firstCells_some (P := P) w size n b len cap news hl (h b rfl)

/-- 'append' makes a new row. -/
theorem run_append_new {t ty e : TypeId} {i : TypeInfo} {z : Value} (ht : P.underlying t = some (.slice e)) (hi : P.info? e = some i) (hz : i.zero = some z)
    {b1 b2 : Option Addr} {sLen sCap n c : Nat} {olds news : List Value} (hlo : olds.length = sLen * i.size) (ho0 : b1 = none → olds = []) (ho : ∀ a', b1 = some a' → ∀ j u, olds[j]? = some u → w.cell? (a'.add j) = some u)
    (hln : news.length = n * i.size) (hn0 : b2 = none → news = []) (hn : ∀ a', b2 = some a' → ∀ j u, news[j]? = some u → w.cell? (a'.add j) = some u)
    (hg : sCap < sLen + n) (h63 : ((sLen + n : Nat) : Int) ≤ 9223372036854775807) (hfit : Builtin.nextslicecap (sLen + n) sCap * i.bytes ≤ 281474976710656) :
    (Builtin.append_ #[t, t] ty #[.slice b1 sLen sCap, .slice b2 n c]).run P w =
      .ok (.slice (some ⟨w.heap.size, 0, none⟩) (sLen + n) (grownCap w (sLen + n) sCap e))
        (w.drew.alloc (.cells (olds.toArray ++ news.toArray ++ Builtin.zeroCells z.cells (grownCap w (sLen + n) sCap e - (sLen + n))) e)) := by
  have hn' : ¬ (sLen + n ≤ sCap) := by omega
  have h63' : ¬ (9223372036854775807 < ((sLen : Int) + (n : Int))) := by omega
  have h48' : ¬ (281474976710656 < Builtin.nextslicecap (sLen + n) sCap * i.bytes) := by omega
  have hf : (Builtin.firstCells i.size n (.slice b2 n c)).run P w.drew = .ok news.toArray w.drew := run_firstCells_of hln hn0 (by simpa using hn)
  have hfo : (Builtin.firstCells i.size sLen (.slice b1 sLen sCap)).run P w.drew = .ok olds.toArray w.drew := run_firstCells_of hlo ho0 (by simpa using ho)
  simp [Builtin.append_, run_underlying ht, sizeOf, typeInfo, zeroValue, hi, hz, Builtin.lenOf, hn', h63', h48', Question.forced, hf, hfo, newRow, grownCap]
  congr 2
  apply Array.ext'
  simp [List.append_assoc]

/-- 'append' with room. -/
theorem run_append_in {t ty e : TypeId} {i : TypeInfo} (ht : P.underlying t = some (.slice e)) (hi : P.info? e = some i)
    {g : Nat} {b2 : Option Addr} {sLen sCap n c : Nat} {cur : Array Value} {te : TypeId} {fz : Nat × Nat} {news : List Value} (hgw : w.heap[g]? = some (.cells cur te fz)) (hfz : ∀ i, fz.1 ≤ i → i < fz.2 → cur.size ≤ i)
    (hln : news.length = n * i.size) (hn0 : b2 = none → news = []) (hn : ∀ a', b2 = some a' → ∀ j u, news[j]? = some u → w.cell? (a'.add j) = some u) (h1 : ∀ u ∈ news, u.oneCell' = true)
    (hroom : sLen + n ≤ sCap) (hfit : sLen * i.size + news.length ≤ cur.size) :
    (Builtin.append_ #[t, t] ty #[.slice (some ⟨g, 0, none⟩) sLen sCap, .slice b2 n c]).run P w =
      .ok (.slice (some ⟨g, 0, none⟩) (sLen + n) sCap) (w.setRow g (cur.toList.take (sLen * i.size) ++ news ++ cur.toList.drop (sLen * i.size + news.length)).toArray) := by
  have hf : (Builtin.firstCells i.size n (.slice b2 n c)).run P w = .ok news.toArray w := run_firstCells_of hln hn0 hn
  have hst := run_storeCells_fz P g (sLen * i.size) te fz news 0 cur w hgw hfz (by simpa using hfit) h1
  simp only [Nat.add_zero] at hst
  simp [Builtin.append_, run_underlying ht, sizeOf, typeInfo, hi, Builtin.lenOf, hroom, hf, Addr.add_lit, hst]

theorem RepL.forall {α : Type} {R : α → List Value → List Nat → Prop} {p : Value → Prop} (hR : ∀ x vs F, R x vs F → ∀ u ∈ vs, p u) : ∀ {xs : List α} {vs : List Value} {F : List Nat}, RepL R xs vs F → ∀ u ∈ vs, p u
  | [], _, _, h, u, hu => by rw [h.1] at hu; simp at hu
  | x :: xs, _, _, h, u, hu => by
    obtain ⟨v1, v2, F1, F2, rfl, rfl, h1, h2⟩ := h
    rcases List.mem_append.1 hu with hu | hu
    · exact hR _ _ _ h1 u hu
    · exact RepL.forall hR h2 u hu

theorem DstOk.take {k : Take} (hk : k.mild) (h : DstOk σ d) : DstOk (σ.take k) d := by
  unfold Sg.take
  have h1 : ∀ (K : List (Nat × Nat)) (σ : Sg), DstOk σ d → DstOk (K.foldl Sg.kill σ) d := by
    intro K; induction K with
    | nil => intro σ h; exact h
    | cons x K ih => intro σ h; exact ih _ h.kill
  have h2 : ∀ (B : List (Nat × Bx)) (σ : Sg), DstOk σ d → DstOk (B.foldl Sg.putB σ) d := by
    intro B; induction B with
    | nil => intro σ h; exact h
    | cons x B ih => intro σ h; exact ih _ ⟨h.lt, h.free⟩
  have h3 : ∀ (W : List (Nat × SV)) (σ : Sg), (∀ y ∈ W, y.2 = .undef) → DstOk σ d → DstOk (W.foldl Sg.putS σ) d := by
    intro W; induction W with
    | nil => intro σ _ h; exact h
    | cons x W ih =>
      intro σ hW h
      refine ih _ (fun y hy => hW y (List.mem_cons_of_mem _ hy)) ⟨by simpa [Sg.putS, setR_eq] using h.lt, fun y m hy => ?_⟩
      simp only [Sg.putS, setR_eq] at hy
      by_cases hxd : x.1 = d
      · rw [hxd, List.getElem?_set_self h.lt] at hy
        rw [hW x (by simp)] at hy
        simp at hy
      · rw [List.getElem?_set_ne hxd] at hy
        exact h.free y m hy
  exact h3 _ _ hk (h2 _ _ (h1 _ _ h))

theorem nil_own' {e : Ty} {m m' : Md} {v : Value} {X : List Nat} (h : ValRep sh w ⟨.sl e, []⟩ (.own m) v X) : ValRep sh w ⟨.sl e, []⟩ (.own m') v X := by
  obtain ⟨vs, hv, ad, cap, h1, h2, h3⟩ := h
  refine ⟨vs, hv, ad, cap, h1, h2, h3.imp id ?_⟩
  rintro ⟨b, c, ty, fz, F', k1, k2, k3, k4, k5, k6⟩
  exact ⟨b, c, ty, fz, F', k1, k2, k3, k4, k5, k6⟩

theorem appOk_rep {x : A} {m : Md} {d1 : Dy} {v : Value} {X : List Nat} (hok : appOk x m = true) (hx : evA ρ x = some d1) (h : ValRep sh w d1 m v X) : ValRep sh w d1 (.own .sh) v X := by
  unfold appOk at hok
  split at hok
  · exact h
  · split at hok
    · simp only [evA, Option.some.injEq] at hx
      subst hx
      exact nil_own' h
    · cases hok
  · cases hok

theorem lookEl_rep {t : TypeId} {x : Operand} {c : A} (h : InvG sh0 w0 G0 ρ σ a w sh F β) (ho : lookEl P t x σ = some (c, l)) :
    ∃ d m G, evA ρ c = some d ∧ ValRep sh w d m (a.eval x) G ∧ (m = .sh ∨ m = .own .sh) := by
  unfold lookEl at ho
  obtain ⟨s, l1, l2, h1, ho', _⟩ := Rd.bind_some ho
  have hat : ∀ (y : A) (m : Md), s = .at y m → ∃ d G, evA ρ y = some d ∧ ValRep sh w d m (a.eval x) G := by
    rintro y m rfl
    rcases opnd_rep h h1 with ⟨i, rfl, hs, hr⟩ | ⟨c', d, v, _, hc, hd, hr⟩
    · obtain ⟨d, e1, e2⟩ := hr
      exact ⟨d, _, e1, e2⟩
    · simp only [SV.at.injEq] at hc
      obtain ⟨rfl, rfl⟩ := hc
      exact ⟨d, [], hd, valRep_atom hr⟩
  split at ho'
  · rename_i y
    have := Rd.pure_some ho'
    subst this
    obtain ⟨d, G, e1, e2⟩ := hat _ _ rfl
    exact ⟨d, _, G, e1, e2, .inl rfl⟩
  · rename_i y
    have := Rd.pure_some ho'
    subst this
    obtain ⟨d, G, e1, e2⟩ := hat _ _ rfl
    exact ⟨d, _, G, e1, e2, .inr rfl⟩
  · rename_i e m _
    have := Rd.pure_some ho'
    subst this
    obtain ⟨d, G, e1, e2⟩ := hat _ _ rfl
    have e1' := e1
    simp only [evA, Option.some.injEq] at e1'
    subst e1'
    exact ⟨_, _, _, e1, nil_sh e2, .inl rfl⟩
  · rename_i b r c2
    obtain ⟨⟨y, m⟩, l3, l4, h2, ho2, _⟩ := Rd.bind_some ho'
    obtain ⟨_, l5, l6, h3, ho3, _⟩ := Rd.bind_some ho2
    have hm := Rd.guard_some h3
    have hm : m = .sh := by cases m <;> simp [Md.isSh] at hm; rfl
    subst hm
    have := Rd.pure_some ho3
    subst this
    obtain ⟨q1, _⟩ := opnd_rf h h1
    obtain ⟨d, G, e1, e2, _⟩ := root_rep h (rootA_some h2) q1
    exact ⟨d, _, G, e1, e2, .inr rfl⟩
  · cases ho'

theorem app_inv {e : Ty} {d1 d2 dy : Dy} (h : evX (.app e) [d1, d2] = some dy) : ∃ (l r : D (.sl e)), d1 = ⟨.sl e, l⟩ ∧ d2 = ⟨.sl e, r⟩ ∧ List.length l + List.length r < maxRow ∧ dy = ⟨.sl e, List.append l r⟩ := by
  simp only [evX] at h
  cases h1 : d1.as (.sl e) with
  | none => rw [h1] at h; cases h
  | some l =>
    cases h2 : d2.as (.sl e) with
    | none => rw [h1, h2] at h; cases h
    | some r =>
      rw [h1, h2] at h
      dsimp only at h
      split at h
      · rename_i hlt
        simp only [Option.some.injEq] at h
        exact ⟨l, r, as_inv h1, as_inv h2, hlt, h.symm⟩
      · cases h

theorem zOk_some {e : TypeId} {n : Nat} (h : zOk P e n = true) (hn : P.cellsOf e = n) : ∃ i z, P.info? e = some i ∧ i.zero = some z ∧ z.cells.size = n ∧ i.size = n ∧ i.bytes = P.bytesOf e := by
  unfold zOk at h
  cases hi : P.info? e with
  | none => rw [hi] at h; cases h
  | some i =>
    rw [hi] at h
    dsimp only at h
    cases hz : i.zero with
    | none => rw [hz] at h; cases h
    | some z =>
      rw [hz] at h
      refine ⟨i, z, rfl, hz, by simpa using h, ?_, ?_⟩
      · rw [← hn]; simp [Program.cellsOf, hi]
      · simp [Program.bytesOf, hi]

theorem elemOf_some {t e : TypeId} (h : elemOf P t = some e) : P.underlying t = some (.slice e) := by
  unfold elemOf at h
  cases hu : P.underlying t with
  | none => rw [hu] at h; cases h
  | some u => ?_
  rw [hu] at h
  cases u with
  | slice e' => simp at h; rw [h]
  | _ => cases h

theorem sound_append {t : TypeId} {x y : Operand} {nv : Nat} {c : Call} (h : InvG sh0 w0 G0 ρ σ a w sh F β) (hop : o.op = .call c) (hc : c.callee = .builtin .append) (hx : c.args = ⟨[x, y]⟩) (ht : c.argTypes = ⟨[t, t]⟩)
    (hd : o.dst = some d) (hlt : DstOk σ d) (hs : stAppend P nv d t x y σ = some (st, l)) (he : EmOk Fn ρ nv st.em) : o.wp P a w (Inv sh0 w0 G0 ρ (σ.apply st)) Q := by
  unfold stAppend at hs
  obtain ⟨e, l1, l2, h1, hs1, _⟩ := Rd.bind_some hs
  have hel := elemOf_some (Rd.ofO_some h1)
  obtain ⟨τ, l3, l4, h2, hs2, _⟩ := Rd.bind_some hs1
  obtain ⟨_, l5, l6, h3, hs3, _⟩ := Rd.bind_some hs2
  have hg := Rd.guard_some h3
  obtain ⟨k, l7, l8, h4, hs4, _⟩ := Rd.bind_some hs3
  obtain ⟨_, l9, l10, h5, hs5, _⟩ := Rd.bind_some hs4
  have hok := Rd.guard_some h5
  obtain ⟨b, l11, l12, h6, hs6, _⟩ := Rd.bind_some hs5
  have := Rd.pure_some hs6
  subst this
  simp only [Bool.and_eq_true, beq_iff_eq, bne_iff_ne, decide_eq_true_eq] at hg
  obtain ⟨⟨⟨hn, hn0⟩, hby⟩, hzo⟩ := hg
  obtain ⟨i, z, hi, hz, hzs, hisz, hib⟩ := zOk_some hzo hn
  have hrun : ∀ v w', (Builtin.append_ #[t, t] o.type #[a.eval x, a.eval y]).run P w = .ok v w' → (execOp a.eval o).run P w = .ok (.value v) w' := by
    intro v w' hv
    unfold execOp
    rw [hop]
    simp only [Sem.run_bind, resolve, hc, hx, ht, Sem.run_pure, Result.andThen_ok, invoke, builtin]
    have : (Array.map a.eval ⟨[x, y]⟩ : Array Value) = #[a.eval x, a.eval y] := by simp
    rw [this]
    rw [show (⟨[t, t]⟩ : Array TypeId) = #[t, t] from rfl, hv]
    rfl
  obtain ⟨F', X, d1, hI, e1, r1, x1, x2, x3, x4⟩ := take_rep h h4
  obtain ⟨d2, m2, G2, e2, r2, hm2⟩ := lookEl_rep h h6
  have r1 := appOk_rep hok e1 r1
  obtain ⟨dy, k1, k2⟩ := he.1
  unfold ev at k1
  simp only [evAs, e1, e2] at k1
  obtain ⟨l, r, rfl, rfl, hmax, rfl⟩ := app_inv k1
  obtain ⟨ad2, cap2, news, hv2, hnl, hnr, hn0', hnc⟩ := el_cells hm2 r2
  have hmild := takeV_mild h4
  have hdt := hlt.take hmild
  have happ := apply_take (σ := σ) hmild [.e ⟨.app τ, [k.x, b]⟩] [] [] [(d, .at (.var nv) (.own .sh))]
  rw [List.append_nil, List.append_nil] at happ
  rw [happ]
  -- a new row
  have hgrow : ∀ (ad : Option Addr) (cap : Nat) (olds : List Value), a.eval x = .slice ad (List.length l) cap → olds.length = List.length l * τ.n → RepL (fun x vs F => Rep sh w τ .sh x vs F) l olds [] → (ad = none → olds = []) →
      (∀ a', ad = some a' → ∀ j u, olds[j]? = some u → w.cell? (a'.add j) = some u) → cap < List.length l + List.length r → o.wp P a w (Inv sh0 w0 G0 ρ ((σ.take k).putS (d, .at (.var nv) (.own .sh)))) Q := by
    intro ad cap olds hv1 hol hor ho0 hoc hcap
    have hmr : List.length l + List.length r < 4294967296 := hmax
    have hfit : Builtin.nextslicecap (List.length l + List.length r) cap * i.bytes ≤ 281474976710656 :=
      growslice_fits hcap (by
        have : (List.length l + List.length r) * i.bytes ≤ 4294967296 * 32768 := Nat.mul_le_mul (by omega) (by rw [hib]; exact hby)
        omega)
    have hr := run_append_new (P := P) (w := w) (t := t) (ty := o.type) hel hi hz (olds := olds) (news := news) (b1 := ad) (b2 := ad2) (sLen := List.length l) (sCap := cap) (n := List.length r) (c := cap2) (by rw [hisz]; exact hol) ho0 hoc (by rw [hisz]; exact hnl) hn0' hnc hcap (by omega) hfit
    have hge := grownCap_ge w (List.length l + List.length r) cap e
    have hbel : Below w.heap.size w (w.drew.alloc (.cells (olds.toArray ++ news.toArray ++ Builtin.zeroCells z.cells (grownCap w (List.length l + List.length r) cap e - (List.length l + List.length r))) e)) := ((Below.refl _ _).drew).alloc (Nat.le_refl _) _
    refine wp_value (hrun _ _ (by rw [hv1, hv2]; exact hr)) ?_
    rw [hd]
    have hlen : List.length (List.append l r) = List.length l + List.length r := List.length_append
    have hrow : OwnRow sh (w.drew.alloc (.cells (olds.toArray ++ news.toArray ++ Builtin.zeroCells z.cells (grownCap w (List.length l + List.length r) cap e - (List.length l + List.length r))) e)) τ (List.append l r) w.heap.size (grownCap w (List.length l + List.length r) cap e) _ e (0, 0) :=
      { heap := new_block w.drew _
        room := by rw [hlen]; exact hge
        size := by
          simp only [Array.size_append, List.size_toArray, size_zeroCells, hzs, hol, hnl]
          rw [← Nat.add_mul, ← Nat.add_mul, Nat.mul_comm]
          congr 1
          omega
        frozen := fun i _ hi => by simp at hi
        rep := by
          have h1 := RepL.app hor hnr
          have h2 := repL_grow (τ := τ) (l := List.append l r) (vs := olds ++ news) h.sh_lt hbel (by simpa using h1)
          have : ((olds.toArray ++ news.toArray ++ Builtin.zeroCells z.cells (grownCap w (List.length l + List.length r) cap e - (List.length l + List.length r))).toList.take (τ.n * List.length (List.append l r))) = olds ++ news := by
            simp only [Array.toList_append, List.toList_toArray]
            have hl2 : (olds ++ news).length = τ.n * List.length (List.append l r) := by rw [List.length_append, hol, hnl, hlen, ← Nat.add_mul, Nat.mul_comm]
            rw [← hl2, List.take_left]
          rw [this]
          exact h2 }
    have := hI.newRow (c := .var nv) hdt hbel hrow k2
    rw [hlen] at this
    exact this
  rcases own_row r1 with ⟨ad, hv1, rfl, rfl⟩ | ⟨g, cap, ar, ty, fz, hv1, rfl, ho⟩
  · rcases Nat.eq_zero_or_pos (List.length r) with hr0 | hr0
    · -- nothing to nothing
      have hr0' : r = [] := List.eq_nil_of_length_eq_zero hr0
      subst hr0'
      have hnews : news = [] := by
        have : news.length = 0 := by rw [hnl]; simp
        exact List.eq_nil_of_length_eq_zero this
      subst hnews
      have hf : (Builtin.firstCells i.size 0 (.slice ad2 0 cap2)).run P w = .ok #[] w := run_firstCells_of (news := []) (by simp) (fun _ => rfl) hnc
      have hr : (Builtin.append_ #[t, t] o.type #[.slice ad 0 0, .slice ad2 0 cap2]).run P w = .ok (.slice ad 0 0) w := by
        cases ad <;> simp [Builtin.append_, run_underlying hel, sizeOf, typeInfo, hi, Builtin.lenOf, hf, storeCells]
      refine wp_value (hrun _ _ (by rw [hv1, hv2]; exact hr)) ?_
      rw [hd]
      refine ⟨_, _, _, hI.put_none (d := d) (s := .at (.var nv) (.own .sh)) hdt ⟨_, k2, [.slice ad 0 0], rfl, ad, 0, rfl, Nat.le_refl _, .inl ⟨rfl, rfl, rfl⟩⟩⟩
    · exact hgrow ad 0 [] hv1 (by simp) ⟨rfl, rfl⟩ (fun _ => rfl) (fun _ _ j u hu => by simp at hu) (by simpa using hr0)
  · rcases Nat.lt_or_ge cap (List.length l + List.length r) with hcap | hcap
    · have hol : (ar.toList.take (τ.n * List.length l)).length = List.length l * τ.n := by rw [RepL.len (fun x vs F h => Rep.len h) ho.rep, Nat.mul_comm]
      refine hgrow (some ⟨g, 0, none⟩) cap _ hv1 hol ho.rep (by simp) (fun a' ha j u hu => ?_) hcap
      simp only [Option.some.injEq] at ha
      subst ha
      rw [add_off]
      rw [List.getElem?_take] at hu
      split at hu
      · simp [World.cell?, ho.heap]
        simpa using hu
      · cases hu
    · -- in place
      have hone := RepL.forall (fun x vs F h => Rep.one' h) hnr
      have hsz : τ.n * cap = ar.size := ho.size.symm
      have hfit : List.length l * τ.n + news.length ≤ ar.size := by
        rw [hnl, ← Nat.add_mul, Nat.mul_comm, ← hsz]
        exact Nat.mul_le_mul_left _ hcap
      have hr := run_append_in (P := P) (w := w) (t := t) (ty := o.type) hel hi (g := g) (b2 := ad2) (sLen := List.length l) (sCap := cap) (n := List.length r) (c := cap2) (news := news) ho.heap ho.frozen (by rw [hisz]; exact hnl) hn0' hnc hone hcap (by rw [hisz]; exact hfit)
      rw [hisz] at hr
      refine wp_value (hrun _ _ (by rw [hv1, hv2]; exact hr)) ?_
      rw [hd]
      have hown := x2 g (by simp)
      have hfree := x3 g (by simp)
      generalize hnew : (ar.toList.take (List.length l * τ.n) ++ news ++ ar.toList.drop (List.length l * τ.n + news.length)).toArray = ar1
      have hturn := hI.turn (w' := w.setRow g ar1) (L := [g]) (sh' := sh) (setRow_ext _ _ _)
        (fun b hb => by
          obtain rfl : b = g := by simpa using hb
          exact ⟨hfree, hown.2.2, hown.1⟩)
        (fun _ h => h) (fun b hb => ⟨by have := h.sh_lt b hb; simpa using this, .inl hb⟩)
      have hlen : List.length (List.append l r) = List.length l + List.length r := List.length_append
      have hol : (ar.toList.take (List.length l * τ.n)).length = List.length l * τ.n := by
        simp only [List.length_take, Array.length_toList]
        omega
      have hrow : OwnRow sh (w.setRow g ar1) τ (List.append l r) g cap ar1 ty fz :=
        { heap := setRow_heap w g ar ar1 ty fz ho.heap
          room := by rw [hlen]; exact hcap
          size := by
            rw [hsz, ← hnew]
            simp only [List.size_toArray, List.length_append, hol, List.length_drop, Array.length_toList]
            omega
          frozen := by
            have : ar1.size = ar.size := by
              rw [← hnew]
              simp only [List.size_toArray, List.length_append, hol, List.length_drop, Array.length_toList]
              omega
            rw [this]; exact ho.frozen
          rep := by
            have h0 := ho.rep
            rw [Nat.mul_comm] at h0
            have h1 := RepL.app h0 hnr
            have : ar1.toList.take (τ.n * List.length (List.append l r)) = ar.toList.take (List.length l * τ.n) ++ news := by
              rw [← hnew]
              have hl2 : (ar.toList.take (List.length l * τ.n) ++ news).length = τ.n * List.length (List.append l r) := by rw [List.length_append, hol, hnl, hlen, ← Nat.add_mul, Nat.mul_comm]
              rw [← hl2, List.toList_toArray, List.take_left]
            rw [this]
            exact RepL.imp h1 (fun x vs G hG hh => Rep.frame (fun b hb => ⟨hb, setRow_other w g b ar1 (fun e => hown.2.2 (e ▸ hb))⟩) hh (fun b hb => absurd (hG b hb) (by simp))) }
      have hput := hturn.put (d := d) (s := .at (.var nv) (.own .sh)) (v := .slice (some ⟨g, 0, none⟩) (List.length (List.append l r)) cap) (X := [g]) hdt ⟨_, k2, hrow.val⟩ (by simp [roots]) trivial (by simp)
        (fun b hb => by
          obtain rfl : b = g := by simpa using hb
          exact ⟨hown.1, by simpa using hown.2.1, hown.2.2⟩)
        (fun b hb k j _ => by
          obtain rfl : b = g := by simpa using hb
          exact hfree k j)
      rw [hlen] at hput
      exact ⟨_, _, _, hput⟩

theorem zero_atoms {e : TypeId} {cs : List Cell} {zs : List A} (hz : zeroOk P e cs = true) (hs : shCells cs = some zs) :
    ∃ i z ds, P.info? e = some i ∧ i.zero = some z ∧ evAs ρ zs = some ds ∧ shAtoms sh w ds z.cells.toList := by
  unfold zeroOk at hz
  cases hi : P.info? e with
  | none => rw [hi] at hz; cases hz
  | some i => ?_
  rw [hi] at hz
  dsimp only at hz
  cases hzv : i.zero with
  | none => rw [hzv] at hz; cases hz
  | some z => ?_
  rw [hzv] at hz
  simp only [Bool.and_eq_true, beq_iff_eq] at hz
  have hrep : RepL (one (CellRep sh w ρ)) cs z.cells.toList [] := zip_all_rep (by simpa using hz.2) hz.1
  obtain ⟨ds, h1, h2⟩ := shCells_rep hs hrep
  exact ⟨i, z, ds, rfl, hzv, h1, h2⟩

theorem madeCells_succ (z : Array Value) (k : Nat) (hz : 0 < z.size) : (madeCells z ((k + 1) * z.size)).toList = z.toList ++ (madeCells z (k * z.size)).toList := by
  unfold madeCells
  simp only [Array.toList_map, Array.toList_range]
  rw [Nat.succ_mul, Nat.add_comm, List.range_add, List.map_append, List.map_map]
  congr 1
  · apply List.ext_getElem?
    intro i
    rw [List.getElem?_map]
    by_cases hi : i < z.size
    · rw [List.getElem?_range hi]
      simp [Nat.mod_eq_of_lt hi, hi]
    · rw [List.getElem?_eq_none (by simpa using hi), List.getElem?_eq_none (by simpa using hi)]
      rfl
  · apply List.map_congr_left
    intro i _
    simp [Nat.add_mod_left]

theorem made_rep {τ : Ty} {y : D τ} {z : Array Value} (hz : 0 < z.size) (h : Rep sh w τ .sh y z.toList []) : ∀ k, RepL (fun x vs F => Rep sh w τ .sh x vs F) (List.replicate k y) (madeCells z (k * z.size)).toList []
  | 0 => ⟨by simp [madeCells], rfl⟩
  | k + 1 => by
    rw [madeCells_succ z k hz, List.replicate_succ]
    exact ⟨z.toList, _, [], [], rfl, rfl, h, made_rep hz h k⟩

theorem rep_inv {e : Ty} {d1 d2 dy : Dy} (h : evX (.rep e) [d1, d2] = some dy) : ∃ (k : IntKind) (j : Int) (y : D e), d1 = ⟨.int k, j⟩ ∧ d2 = ⟨e, y⟩ ∧ 0 ≤ j ∧ j < maxRow ∧ dy = ⟨.sl e, List.replicate j.toNat y⟩ := by
  obtain ⟨τ1, x1⟩ := d1
  cases τ1 <;> first | (simp [evX] at h; done) | skip
  rename_i k
  simp only [evX] at h
  cases h2 : d2.as e with
  | none => rw [h2] at h; cases h
  | some y =>
    rw [h2] at h
    dsimp only at h
    split at h
    · rename_i hc
      simp only [Option.some.injEq] at h
      exact ⟨k, x1, y, rfl, as_inv h2, hc.1, hc.2, h.symm⟩
    · cases h

theorem sound_makeSlice {t : TypeId} {x y : Operand} {nv : Nat} (h : InvG sh0 w0 G0 ρ σ a w sh F β) (hop : o.op = .makeSlice t x y)
    (hd : o.dst = some d) (hlt : DstOk σ d) (hs : stMakeSlice P nv d t x y σ = some (st, l)) (he : EmOk Fn ρ nv st.em) : o.wp P a w (Inv sh0 w0 G0 ρ (σ.apply st)) Q := by
  unfold stMakeSlice at hs
  obtain ⟨e, l1, l2, h1, hs1, _⟩ := Rd.bind_some hs
  have hel := elemOf_some (Rd.ofO_some h1)
  obtain ⟨τ, l3, l4, h2, hs2, _⟩ := Rd.bind_some hs1
  obtain ⟨n, l5, l6, h3, hs3, _⟩ := Rd.bind_some hs2
  obtain ⟨_, l7, l8, h4, hs4, _⟩ := Rd.bind_some hs3
  have hg := Rd.guard_some h4
  obtain ⟨cs, l9, l10, h5, hs5, _⟩ := Rd.bind_some hs4
  obtain ⟨zs, l11, l12, h6, hs6, _⟩ := Rd.bind_some hs5
  have hzs := Rd.ofO_some h6
  obtain ⟨_, l13, l14, h7, hs7, _⟩ := Rd.bind_some hs6
  have hz := Rd.guard_some h7
  simp only [Bool.and_eq_true, beq_iff_eq, bne_iff_ne, decide_eq_true_eq] at hg
  obtain ⟨⟨⟨hxy, hn⟩, hn0⟩, hby⟩ := hg
  obtain ⟨d1, sqd1, m1, X1, e1, r1, _⟩ := look_rep h h3
  obtain ⟨i, z, ds, hi, hzv, e3, hat⟩ := zero_atoms (ρ := ρ) (sh := sh) (w := w) hz hzs
  have hisz : i.size = τ.n := by rw [← hn]; simp [Program.cellsOf, hi]
  have hib : i.bytes = P.bytesOf e := by simp [Program.bytesOf, hi]
  have hgo : ∀ (c : A) (dz : Dy) (j : Nat), evA ρ c = some dz → ∀ (dy : Dy), evX (.rep τ) [d1, dz] = some dy → ρ[j]? = some dy → Rep sh w dz.1 .sh dz.2 z.cells.toList [] →
      o.wp P a w (Inv sh0 w0 G0 ρ (σ.putS (d, .at (.var j) (.own .sh)))) Q := by
    intro c dz j hc dy hev hj hrz
    obtain ⟨k, jj, yy, rfl, rfl, hj0, hjm, rfl⟩ := rep_inv hev
    have hzl : z.cells.size = τ.n := by rw [← Array.length_toList]; exact hrz.len
    have hx : a.eval x = .int k jj := valA_rep r1 rfl
    have hy : ∃ k', a.eval y = .int k' jj := by
      unfold lenSame at hxy
      split at hxy
      · have := beq_iff_eq.1 hxy
        subst this
        exact ⟨k, hx⟩
      · rename_i k1 n1 k2 n2
        have := beq_iff_eq.1 hxy
        subst this
        have hx' : Value.int k1 n1 = .int k jj := hx
        simp only [Value.int.injEq] at hx'
        exact ⟨k2, by show Value.int k2 n1 = _; rw [hx'.2]⟩
      · cases hxy
    obtain ⟨k', hy⟩ := hy
    have hjm' : jj < 4294967296 := hjm
    have hr := run_make (P := P) w t e i z hel hi hzv k k' jj jj hj0 (Int.le_refl _) (by
      rw [hib]
      have h1 : (P.bytesOf e : Int) ≤ 32768 := by omega
      calc (P.bytesOf e : Int) * jj ≤ 32768 * 4294967296 := Int.mul_le_mul h1 (by omega) hj0 (by omega)
        _ ≤ 281474976710656 := by omega) (by omega)
    have hbel : Below w.heap.size w (w.alloc (.cells (madeCells z.cells (jj.toNat * i.size)) e)) := (Below.refl _ _).alloc (Nat.le_refl _) _
    refine wp_value (v := .slice (some ⟨w.heap.size, 0, none⟩) jj.toNat jj.toNat) (w' := w.alloc (.cells (madeCells z.cells (jj.toNat * i.size)) e)) ?_ ?_
    · unfold execOp
      rw [hop]
      simp only [hx, hy, Sem.run_bind, hr, Result.andThen_ok, Sem.run_pure]
    · rw [hd]
      have hlen : List.length (List.replicate jj.toNat yy) = jj.toNat := List.length_replicate
      have hrow : OwnRow sh (w.alloc (.cells (madeCells z.cells (jj.toNat * i.size)) e)) τ (List.replicate jj.toNat yy) w.heap.size jj.toNat (madeCells z.cells (jj.toNat * i.size)) e (0, 0) :=
        { heap := new_block w _
          room := by rw [hlen]; exact Nat.le_refl _
          size := by rw [size_madeCells, hisz, Nat.mul_comm]
          frozen := fun i _ hi => by simp at hi
          rep := by
            have h1 := made_rep (by rw [hzl]; exact Nat.pos_of_ne_zero hn0) hrz jj.toNat
            have h1' : RepL (fun x vs F => Rep sh w τ .sh x vs F) (List.replicate jj.toNat yy) (madeCells z.cells (jj.toNat * i.size)).toList [] := by rw [hisz, ← hzl]; exact h1
            have h2 := repL_grow (w' := w.alloc (.cells (madeCells z.cells (jj.toNat * i.size)) e)) (τ := τ) (l := List.replicate jj.toNat yy) h.sh_lt hbel h1'
            have ht : (madeCells z.cells (jj.toNat * i.size)).toList.take (τ.n * List.length (List.replicate jj.toNat yy)) = (madeCells z.cells (jj.toNat * i.size)).toList :=
              List.take_of_length_le (by rw [Array.length_toList, size_madeCells, hlen, hisz, Nat.mul_comm]; exact Nat.le_refl _)
            rw [ht]
            exact h2 }
      have := h.newRow (c := .var j) hlt hbel hrow hj
      rw [hlen] at this
      exact this
  cases hagg : τ.isAgg with
  | true =>
    simp only [hagg, if_true] at hs7
    have := Rd.pure_some hs7
    subst this
    obtain ⟨⟨dm, k1, k2⟩, ⟨dy, k3, k4⟩, _⟩ := he
    unfold ev at k1
    simp only [e3, evX] at k1
    obtain ⟨q1, _, _, _⟩ := ofCells_rep hat k1
    unfold ev at k3
    simp only [evAs, evA, e1, k2] at k3
    exact hgo (.var nv) dm (nv + 1) k2 dy k3 k4 q1
  | false =>
    simp only [hagg, Bool.false_eq_true, if_false] at hs7
    match zs, e3, hs7 with
    | [zz], e3, hs7 =>
      have := Rd.pure_some hs7
      subst this
      obtain ⟨⟨dy, k3, k4⟩, _⟩ := he
      obtain ⟨dz, e4, rfl⟩ := evAs1 e3
      obtain ⟨v, us, hvs, hatom, hus⟩ := hat
      have hus : us = [] := hus
      subst hus
      unfold ev at k3
      simp only [evAs, e1, e4] at k3
      exact hgo zz dz nv e4 dy k3 k4 (by rw [hvs]; exact hatom.2)
    | [], _, hs7 => cases hs7
    | _ :: _ :: _, _, hs7 => cases hs7

theorem lookParts_rep {e : TypeId} : ∀ {ps : List (Nat × Operand)} {i : Nat} {xs : List A} {l : List (Bool × Nat)}, InvG sh0 w0 G0 ρ σ a w sh F β → lookParts P e i ps σ = some (xs, l) →
    ∃ ds, evAs ρ xs = some ds ∧ ds.length = ps.length ∧ ps.map (·.1) = (List.range' i ps.length) ∧ ∀ τ l, mapAs τ ds = some l → RepL (fun x vs F => Rep sh w τ .sh x vs F) l ((ps.map fun p => (a.eval p.2).cells.toList).flatten) []
  | [], i, xs, l, h, ho => by
    have := Rd.pure_some ho
    subst this
    refine ⟨[], rfl, rfl, rfl, fun τ l hl => ?_⟩
    simp only [mapAs, Option.some.injEq] at hl
    subst hl
    exact ⟨rfl, rfl⟩
  | (j, x) :: ps, i, xs, l, h, ho => by
    unfold lookParts at ho
    obtain ⟨_, l1, l2, h1, ho1, _⟩ := Rd.bind_some ho
    have hij := Rd.guard_some h1
    obtain ⟨c, l3, l4, h2, ho2, _⟩ := Rd.bind_some ho1
    obtain ⟨cs, l5, l6, h3, ho3, _⟩ := Rd.bind_some ho2
    have := Rd.pure_some ho3
    subst this
    obtain ⟨dd, e1, r1⟩ := lookSh_rep h h2
    obtain ⟨ds, e2, e3, e4, e5⟩ := lookParts_rep h h3
    have hij : i = j := by simpa using hij
    subst hij
    refine ⟨dd :: ds, by simp [evAs, e1, e2], by simp [e3], by simp [e4, List.range'_succ], fun τ l hl => ?_⟩
    simp only [mapAs] at hl
    cases h4 : dd.as τ with
    | none => rw [h4] at hl; cases hl
    | some y =>
      cases h5 : mapAs τ ds with
      | none => rw [h4, h5] at hl; cases hl
      | some r =>
        rw [h4, h5] at hl
        simp only [Option.some.injEq] at hl
        subst hl
        obtain rfl := as_inv h4
        exact ⟨(a.eval x).cells.toList, _, [], [], by simp, rfl, valRep_cells r1, e5 τ r h5⟩

theorem lst_inv {e : Ty} {ds : List Dy} {dy : Dy} (h : evX (.lst e) ds = some dy) : ∃ l, mapAs e ds = some l ∧ dy = ⟨.sl e, l⟩ := by
  simp only [evX] at h
  split at h
  · rename_i l hl
    simp only [Option.some.injEq] at h
    exact ⟨l, hl, h.symm⟩
  · cases h

theorem mapAs_len {e : Ty} : ∀ {ds : List Dy} {l : List (D e)}, mapAs e ds = some l → l.length = ds.length
  | [], l, h => by simp [mapAs] at h; subst h; rfl
  | d :: ds, l, h => by
    simp only [mapAs] at h
    split at h
    · rename_i x r h1 h2
      simp only [Option.some.injEq] at h
      subst h
      simp [mapAs_len h2]
    · cases h

theorem flatten_get {s : Nat} (hs : 0 < s) : ∀ (ls : List (List Value)) (k : Nat), (∀ l ∈ ls, l.length = s) → ls.flatten[k]? = (ls[k / s]?).bind fun l => l[k % s]?
  | [], k, _ => by simp
  | l :: ls, k, h => by
    have hl := h l (by simp)
    have ih := flatten_get hs ls (k - s) (fun l' hl' => h l' (List.mem_cons_of_mem _ hl'))
    rw [List.flatten_cons]
    by_cases hk : k < s
    · rw [List.getElem?_append_left (by omega), Nat.div_eq_of_lt hk, Nat.mod_eq_of_lt hk]
      rfl
    · rw [List.getElem?_append_right (by omega), hl, ih]
      have h1 : k / s = (k - s) / s + 1 := by
        rw [Nat.div_eq_sub_div hs (by omega)]
      have h2 : k % s = (k - s) % s := Nat.mod_eq_sub_mod (by omega)
      rw [h1, h2, List.getElem?_cons_succ]

theorem zip_parts (a : Act) : ∀ (ps : List (Nat × Operand)) (i : Nat), ps.map (·.1) = List.range' i ps.length → ps.map (fun x => (x.1, a.eval x.2)) = ((ps.map fun p => a.eval p.2).zipIdx i).map fun x => (x.2, x.1)
  | [], _, _ => rfl
  | (j, x) :: ps, i, h => by
    simp only [List.map_cons, List.length_cons, List.range'_succ, List.cons.injEq] at h
    obtain ⟨rfl, h2⟩ := h
    simp only [List.map_cons, List.zipIdx_cons]
    rw [zip_parts a ps (j + 1) h2]

theorem sound_buildSlice {t : TypeId} {n : Nat} {ps : Array (Nat × Operand)} {nv : Nat} (h : InvG sh0 w0 G0 ρ σ a w sh F β) (hop : o.op = .buildSlice t n ps)
    (hd : o.dst = some d) (hlt : DstOk σ d) (hs : stBuildSlice P nv d t n ps.toList σ = some (st, l)) (he : EmOk Fn ρ nv st.em) : o.wp P a w (Inv sh0 w0 G0 ρ (σ.apply st)) Q := by
  unfold stBuildSlice at hs
  obtain ⟨e, l1, l2, h1, hs1, _⟩ := Rd.bind_some hs
  have hel := elemOf_some (Rd.ofO_some h1)
  obtain ⟨τ, l3, l4, h2, hs2, _⟩ := Rd.bind_some hs1
  obtain ⟨_, l7, l8, h4, hs4, _⟩ := Rd.bind_some hs2
  have hg := Rd.guard_some h4
  obtain ⟨xs, l9, l10, h5, hs5, _⟩ := Rd.bind_some hs4
  have := Rd.pure_some hs5
  subst this
  simp only [Bool.and_eq_true, beq_iff_eq, bne_iff_ne, decide_eq_true_eq] at hg
  obtain ⟨⟨⟨⟨hn, hn0⟩, hsm⟩, hzo⟩, hnp⟩ := hg
  obtain ⟨i, z, hi, hz, hzs, hisz, hib⟩ := zOk_some hzo hn
  obtain ⟨ds, e1, e2, e3, e4⟩ := lookParts_rep h h5
  obtain ⟨dy, k1, k2⟩ := he.1
  unfold ev at k1
  rw [show (Ex.mk (.lst τ) xs).args = xs from rfl, e1] at k1
  obtain ⟨l, hl, rfl⟩ := lst_inv k1
  have hrep := e4 τ l hl
  have hll : List.length l = n := by rw [mapAs_len hl, e2, hnp]
  have hpos : 0 < τ.n := Nat.pos_of_ne_zero hn0
  -- the new cells
  have hcells : ∃ cells : Array Value, cells.toList = (ps.toList.map fun p => (a.eval p.2).cells.toList).flatten ∧
      (Instr.buildSlice t n (ps.map fun (i, x) => (i, a.eval x))).run P w = .ok (.slice (some ⟨w.heap.size, 0, none⟩) n n) (w.alloc (.cells cells e)) := by
    have hpl : (ps.map fun (i, x) => (i, a.eval x)).toList = ps.toList.map fun x => (x.1, a.eval x.2) := by simp
    by_cases h0 : n = 0
    · subst h0
      have hnil : ps.toList = [] := List.eq_nil_of_length_eq_zero hnp.symm
      have hps : ps = #[] := by apply Array.ext'; simpa using hnil
      subst hps
      refine ⟨#[], rfl, ?_⟩
      simp [Instr.buildSlice, run_underlying hel, sizeOf, typeInfo, hi, Instr.fill, newRow, Array.range_zero']
    · have hvs : ∀ v ∈ ps.toList.map (fun p => a.eval p.2), v.cells.size = τ.n := by
        intro v hv
        obtain ⟨p, hp, rfl⟩ := List.mem_map.1 hv
        have : ∀ (ps : List (Nat × Operand)) (i : Nat) (xs : List A) (l : List (Bool × Nat)) (ds : List Dy) (r : List (D τ)), lookParts P e i ps σ = some (xs, l) → evAs ρ xs = some ds → mapAs τ ds = some r → ∀ p ∈ ps, (a.eval p.2).cells.size = τ.n := by
          intro ps
          induction ps with
          | nil => intro i xs l ds r _ _ _ p hp; simp at hp
          | cons q ps ih =>
            obtain ⟨j, x⟩ := q
            intro i xs l ds r ho hev hm p hp
            unfold lookParts at ho
            obtain ⟨_, l1, l2, h1, ho1, _⟩ := Rd.bind_some ho
            obtain ⟨c, l3, l4, h2, ho2, _⟩ := Rd.bind_some ho1
            obtain ⟨cs, l5, l6, h3, ho3, _⟩ := Rd.bind_some ho2
            have := Rd.pure_some ho3
            subst this
            obtain ⟨dd, q1, q2⟩ := lookSh_rep h h2
            obtain ⟨d', ds', q3, q4, rfl⟩ := evAs_cons hev
            obtain rfl := some_eq q1 q3
            simp only [mapAs] at hm
            split at hm
            · rename_i y r' h4 h5
              rcases List.mem_cons.1 hp with rfl | hp
              · obtain rfl := as_inv h4
                have := (valRep_cells q2).len
                simpa using this
              · exact ih _ _ _ _ _ h3 q4 h5 p hp
            · cases hm
        exact this _ _ _ _ _ _ h5 e1 hl p hp
      have hvl : (ps.toList.map fun p => a.eval p.2).length = n := by simp only [List.length_map]; exact hnp.symm
      obtain ⟨r, hr, hrs, hrk⟩ := Go.Great.fill_dense hpos (ps.toList.map fun p => a.eval p.2) 0 ((Array.range (n * i.size)).map (z.cells[· % z.cells.size]!)) hvs (by rw [hvl, hisz]; simp)
      refine ⟨r, ?_, ?_⟩
      · apply List.ext_getElem?
        intro k
        rw [Array.getElem?_toList, hrk k, flatten_get hpos _ _ (fun l hl => by
          obtain ⟨p, hp, rfl⟩ := List.mem_map.1 hl
          have := hvs (a.eval p.2) (List.mem_map.2 ⟨p, hp, rfl⟩)
          simpa using this)]
        rw [hvl, Nat.zero_mul, Nat.zero_add]
        by_cases hk : k < n * τ.n
        · rw [if_pos ⟨Nat.zero_le _, hk⟩]
          simp only [Nat.sub_zero, List.getElem?_map]
          cases ps.toList[k / τ.n]? <;> simp
        · rw [if_neg (fun hh => hk hh.2)]
          rw [Array.getElem?_eq_none (by simp [hisz]; omega)]
          have hkd : n ≤ k / τ.n := (Nat.le_div_iff_mul_le hpos).2 (by omega)
          rw [List.getElem?_eq_none (by rw [List.length_map, ← hnp]; exact hkd)]
          rfl
      · refine run_buildSlice w t e n _ r i z hel hi hz (by rw [hisz]; omega) (by rw [hisz]; exact Nat.mul_ne_zero h0 hn0) ?_
        rw [hpl, zip_parts a ps.toList 0 (by rw [e3]), hisz]
        rw [hisz] at hr
        exact hr
  obtain ⟨cells, hc1, hc2⟩ := hcells
  have hbel : Below w.heap.size w (w.alloc (.cells cells e)) := (Below.refl _ _).alloc (Nat.le_refl _) _
  have hcl : cells.size = τ.n * n := by
    rw [← hc1] at hrep
    have := RepL.len (fun x vs F h => Rep.len h) hrep
    rw [← Array.length_toList, this, hll]
  have hrow : OwnRow sh (w.alloc (.cells cells e)) τ l w.heap.size n cells e (0, 0) :=
    { heap := new_block w _
      room := by rw [hll]; exact Nat.le_refl _
      size := hcl
      frozen := fun i _ hi => by simp at hi
      rep := by
        have ht : cells.toList.take (τ.n * List.length l) = cells.toList := List.take_of_length_le (by rw [Array.length_toList, hcl, hll]; exact Nat.le_refl _)
        rw [ht]
        rw [← hc1] at hrep
        exact repL_grow h.sh_lt hbel hrep }
  refine wp_value (v := .slice (some ⟨w.heap.size, 0, none⟩) n n) (w' := w.alloc (.cells cells e)) ?_ ?_
  · unfold execOp
    rw [hop]
    simp only [Sem.run_bind, hc2, Result.andThen_ok, Sem.run_pure]
  · rw [hd]
    have := h.newRow (c := .var nv) hlt hbel hrow k2
    rw [hll] at this
    exact this

/-- Bytes, as a string. -/
theorem foldl_push_bytes : ∀ (ns : List Int) (r : ByteArray), ns.foldl (fun r n => r.push (UInt8.ofNat n.toNat)) r = ⟨r.data ++ (ns.map fun n => UInt8.ofNat n.toNat).toArray⟩
  | [], r => by simp
  | n :: ns, r => by
    rw [List.foldl_cons, foldl_push_bytes ns]
    simp [ByteArray.push]

theorem int_cells {k : IntKind} : ∀ {l : List Int} {vs : List Value} {F : List Nat}, RepL (fun x vs F => Rep sh w (.int k) .sh x vs F) l vs F → vs = l.map (Value.int k)
  | [], vs, F, h => h.1
  | n :: l, vs, F, h => by
    obtain ⟨v1, v2, F1, F2, rfl, rfl, h1, h2⟩ := h
    rw [h1.1, int_cells h2]; rfl

/-- A row of bytes, however owned. -/
theorem byte_row {l : List Int} {sh2 : Nat → Prop} {m : Md} {v : Value} {G : List Nat} (h : ValRep sh2 w ⟨.sl (.int .u8), l⟩ m v G) :
    ∃ ad cap, v = .slice ad l.length cap ∧ (ad = none → l = []) ∧ ∀ b, ad = some b → (loadCells b l.length).run P w = .ok (l.map (Value.int .u8)).toArray w := by
  have hld : ∀ (b : Addr) (news : List Value), news = l.map (Value.int .u8) → (∀ j u, news[j]? = some u → w.cell? (b.add j) = some u) → (loadCells b l.length).run P w = .ok (l.map (Value.int .u8)).toArray w := by
    intro b news hn hc
    have := run_loadCells_list (P := P) w b news hc
    rw [hn] at this
    simpa using this
  obtain ⟨vs, rfl, hr⟩ := h
  cases m with
  | sh =>
    obtain ⟨ad, cap, rfl, hc, _, hr⟩ := hr
    refine ⟨ad, cap, rfl, fun h0 => ?_, fun b hb => ?_⟩
    · rcases hr with h1 | ⟨b, off, c, ty, fz, h1, _⟩
      · exact h1
      · rw [h0] at h1; cases h1
    · rcases hr with h1 | ⟨b', off, c, ty, fz, h1, hb', hw, hr⟩
      · have h1 : l = [] := h1
        subst h1
        exact hld b [] rfl (fun j u hu => by simp at hu)
      · rw [h1] at hb
        simp only [Option.some.injEq] at hb
        subst hb
        refine hld _ _ (int_cells hr) (fun j u hu => ?_)
        rw [add_off]
        rw [List.getElem?_take] at hu
        split at hu
        · rw [List.getElem?_drop] at hu
          simp [World.cell?, hw]
          simpa using hu
        · cases hu
  | own m =>
    obtain ⟨ad, cap, rfl, hc, hr⟩ := hr
    refine ⟨ad, cap, rfl, fun h0 => ?_, fun b hb => ?_⟩
    · rcases hr with ⟨h1, _⟩ | ⟨b, c, ty, fz, F', h1, _⟩
      · exact h1
      · rw [h0] at h1; cases h1
    · rcases hr with ⟨h1, _⟩ | ⟨b', c, ty, fz, F', h1, h2, hw, hsz, hz, hr⟩
      · have h1 : l = [] := h1
        subst h1
        exact hld b [] rfl (fun j u hu => by simp at hu)
      · rw [h1] at hb
        simp only [Option.some.injEq] at hb
        subst hb
        have hr' : RepL (fun x vs F => Rep sh2 w (.int .u8) .sh x vs F) l (c.toList.take ((Ty.int .u8).n * l.length)) F' := RepL.imp hr (fun x vs G _ h => h)
        refine hld _ _ (int_cells hr') (fun j u hu => ?_)
        rw [add_off]
        rw [List.getElem?_take] at hu
        split at hu
        · simp [World.cell?, hw]
          simpa using hu
        · cases hu
  | pair _ _ => exact hr.elim

theorem text_inv {d dy : Dy} (h : evX .text [d] = some dy) : ∃ l : List Int, d = ⟨.sl (.int .u8), l⟩ ∧ dy = ⟨.str, ⟨(l.map fun n => UInt8.ofNat n.toNat).toArray⟩⟩ := by
  obtain ⟨τ, x⟩ := d
  cases τ <;> first | (simp [evX] at h; done) | skip
  rename_i e
  cases e <;> first | (simp [evX] at h; done) | skip
  rename_i k
  cases k <;> first | (simp [evX] at h; done) | skip
  simp only [evX, Option.some.injEq] at h
  exact ⟨x, rfl, h.symm⟩

theorem conv_inv {k : IntKind} {d dy : Dy} (h : evX (.conv k) [d] = some dy) : ∃ (k' : IntKind) (n : Int), d = ⟨.int k', n⟩ ∧ dy = ⟨.int k, k.wrap n⟩ := by
  obtain ⟨τ, x⟩ := d
  cases τ <;> first | (simp [evX] at h; done) | skip
  simp only [evX, Option.some.injEq] at h
  exact ⟨_, x, rfl, h.symm⟩

theorem sound_convert {s t : TypeId} {x : Operand} {nv : Nat} (h : InvG sh0 w0 G0 ρ σ a w sh F β) (hop : o.op = .convert s t x)
    (hd : o.dst = some d) (hlt : DstOk σ d) (hs : stConvert P nv d s t x σ = some (st, l)) (he : EmOk Fn ρ nv st.em) : o.wp P a w (Inv sh0 w0 G0 ρ (σ.apply st)) Q := by
  unfold stConvert at hs
  have hrun : ∀ v, (convert s t (a.eval x)).run P w = .ok v w → (execOp a.eval o).run P w = .ok (.value v) w := by
    intro v hv
    unfold execOp
    rw [hop]
    simp only [Sem.run_bind, hv, Result.andThen_ok, Sem.run_pure]
  generalize hu1 : P.underlying s = u1 at hs
  generalize hu2 : P.underlying t = u2 at hs
  split at hs
  · rename_i k1 k
    unfold stE1 at hs
    obtain ⟨c1, l1, l2, h1, hs1, _⟩ := Rd.bind_some hs
    have := Rd.pure_some hs1
    subst this
    obtain ⟨d1, sqd1, m1, X1, e1, r1, _⟩ := look_rep h h1
    refine sound_e h hd hlt he fun ds dy hds hev => ?_
    obtain ⟨d1', q1, rfl⟩ := evAs1 hds
    obtain rfl := some_eq e1 q1
    obtain ⟨k', n, rfl, rfl⟩ := conv_inv hev
    have hx : a.eval x = .int k' n := valA_rep r1 rfl
    refine ⟨.int k (k.wrap n), hrun _ ?_, valRep_atom ⟨rfl, rfl, rfl⟩⟩
    rw [hx]
    simp [convert, run_underlying hu1, run_underlying hu2, Conv.intToInt]
  · rename_i e
    obtain ⟨_, l1, l2, h1, hs1, _⟩ := Rd.bind_some hs
    have hg := Rd.guard_some h1
    have hu3 : P.underlying e = some (.int .u8) := by
      generalize P.underlying e = u3 at hg
      split at hg
      · rfl
      · cases hg
    unfold stE1 at hs1
    obtain ⟨c1, l3, l4, h2, hs2, _⟩ := Rd.bind_some hs1
    have := Rd.pure_some hs2
    subst this
    obtain ⟨d1, sqd1, m1, X1, e1, r1, _⟩ := look_rep h h2
    refine sound_e h hd hlt he fun ds dy hds hev => ?_
    obtain ⟨d1', q1, rfl⟩ := evAs1 hds
    obtain rfl := some_eq e1 q1
    obtain ⟨l, rfl, rfl⟩ := text_inv hev
    obtain ⟨ad, cap, hv, h0, hld⟩ := byte_row (P := P) r1
    refine ⟨.string ⟨(l.map fun n => UInt8.ofNat n.toNat).toArray⟩, hrun _ ?_, valRep_atom ⟨rfl, rfl, rfl⟩⟩
    rw [hv, run_convert_bytes_string w s t e ad l.length cap hu1 hu3 hu2]
    cases ad with
    | none =>
      have := h0 rfl
      subst this
      simp [Conv.bytesToString]
      rfl
    | some b =>
      rw [run_bytesToString w b l.length cap l (hld b rfl), foldl_push_bytes]
      simp
  · cases hs

/-- Cells, by name, with rows that nobody writes. -/
def NamesRep (sh : Nat → Prop) (w : World) (ρ : List Dy) : List A → List Value → Prop
  | [], vs => vs = []
  | c :: cs, vs => ∃ v us d, vs = v :: us ∧ evA ρ c = some d ∧ AtomRep sh w d .sh v [] ∧ NamesRep sh w ρ cs us

theorem NamesRep.to : ∀ {cs : List A} {vs : List Value}, NamesRep sh w ρ cs vs → ∃ ds, evAs ρ cs = some ds ∧ shAtoms sh w ds vs
  | [], vs, h => ⟨[], rfl, h⟩
  | c :: cs, vs, h => by
    obtain ⟨v, us, d, rfl, h1, h2, h3⟩ := h
    obtain ⟨ds, k1, k2⟩ := h3.to
    exact ⟨d :: ds, by simp [evAs, h1, k1], v, us, rfl, h2, k2⟩

theorem NamesRep.of : ∀ {cs : List A} {vs : List Value} {ds : List Dy}, evAs ρ cs = some ds → shAtoms sh w ds vs → NamesRep sh w ρ cs vs
  | [], vs, ds, h, hs => by
    simp only [evAs, Option.some.injEq] at h
    subst h
    exact hs
  | c :: cs, vs, ds, h, hs => by
    obtain ⟨d, r, h1, h2, rfl⟩ := evAs_cons h
    obtain ⟨v, us, rfl, k1, k2⟩ := hs
    exact ⟨v, us, d, rfl, h1, k1, NamesRep.of h2 k2⟩

theorem NamesRep.length : ∀ {cs : List A} {vs : List Value}, NamesRep sh w ρ cs vs → vs.length = cs.length
  | [], vs, h => by have h : vs = [] := h; subst h; rfl
  | c :: cs, vs, h => by
    obtain ⟨v, us, d, rfl, h1, h2, h3⟩ := h
    simp [h3.length]

theorem NamesRep.take : ∀ {cs : List A} {vs : List Value} (n : Nat), NamesRep sh w ρ cs vs → NamesRep sh w ρ (cs.take n) (vs.take n)
  | _, _, 0, _ => by simp [NamesRep]
  | [], vs, n + 1, h => by have h : vs = [] := h; subst h; simp [NamesRep]
  | c :: cs, vs, n + 1, h => by
    obtain ⟨v, us, d, rfl, h1, h2, h3⟩ := h
    exact ⟨v, _, d, by simp, h1, h2, h3.take n⟩

theorem NamesRep.drop : ∀ {cs : List A} {vs : List Value} (n : Nat), NamesRep sh w ρ cs vs → NamesRep sh w ρ (cs.drop n) (vs.drop n)
  | _, _, 0, h => h
  | [], vs, n + 1, h => by have h : vs = [] := h; subst h; simp [NamesRep]
  | c :: cs, vs, n + 1, h => by
    obtain ⟨v, us, d, rfl, h1, h2, h3⟩ := h
    simpa using h3.drop n

theorem NamesRep.app : ∀ {cs ds : List A} {vs us : List Value}, NamesRep sh w ρ cs vs → NamesRep sh w ρ ds us → NamesRep sh w ρ (cs ++ ds) (vs ++ us)
  | [], ds, vs, us, h, h2 => by have h : vs = [] := h; subst h; exact h2
  | c :: cs, ds, vs, us, h, h2 => by
    obtain ⟨v, ws, d, rfl, h1, h3, h4⟩ := h
    exact ⟨v, ws ++ us, d, rfl, h1, h3, h4.app h2⟩

theorem shCells_cellsM : ∀ {n off : Nat} {b : A}, shCells (cellsM b off .sh n) = some (fldsA b off n)
  | 0, _, _ => rfl
  | n + 1, off, b => by
    show (shCells (cellsM b (off + 1) .sh n)).map (_ :: ·) = _
    rw [shCells_cellsM]; rfl

theorem fold_splice (off : Nat) (l : List Value) (cs : Array Value) (h : off + l.length ≤ cs.size) :
    (l.zipIdx.foldl (fun cs (x : Value × Nat) => cs.setIfInBounds (off + x.2) x.1) cs).toList = cs.toList.take off ++ l ++ cs.toList.drop (off + l.length) := by
  obtain ⟨h1, h2⟩ := Go.Great.foldl_set off l 0 cs
  apply List.ext_getElem?
  intro k
  rw [Array.getElem?_toList, h2 k]
  simp only [Nat.add_zero]
  have hto : (cs.toList.take off).length = off := by simp; omega
  by_cases hk : off ≤ k ∧ k < off + l.length ∧ k < cs.size
  · rw [if_pos hk, List.append_assoc, List.getElem?_append_right (by omega), hto, List.getElem?_append_left (by omega)]
  · rw [if_neg hk]
    rcases Nat.lt_or_ge k off with h3 | h3
    · rw [List.append_assoc, List.getElem?_append_left (by omega), List.getElem?_take, if_pos h3, Array.getElem?_toList]
    · rw [List.append_assoc, List.getElem?_append_right (by omega), hto]
      rcases Nat.lt_or_ge k (off + l.length) with h4 | h4
      · have : cs.size ≤ k := by omega
        omega
      · rw [List.getElem?_append_right (by omega), List.getElem?_drop, Array.getElem?_toList]
        congr 1
        omega

theorem fieldOf_some {s : TypeId} {i off : Nat} {ft : TypeId} (h : fieldOf P s i = some (off, ft)) : ∃ (fs : Array Field) (f : Field), P.underlying s = some (.struct fs) ∧ fs[i]? = some f ∧ f.offset = off ∧ f.type = ft := by
  unfold fieldOf at h
  generalize hu : P.underlying s = u at h
  split at h
  · rename_i fs
    obtain ⟨f, hf, he⟩ := Option.map_eq_some_iff.1 h
    obtain ⟨rfl, rfl⟩ := Prod.mk.inj he
    exact ⟨fs, f, rfl, hf, rfl, rfl⟩
  · cases h

theorem mapM_get {α β : Type} {f : α → Option β} : ∀ {l : List α} {r : List β} {i : Nat} {x : α}, l.mapM f = some r → l[i]? = some x → ∃ y, f x = some y ∧ r[i]? = some y
  | [], r, i, x, _, h => by simp at h
  | a :: l, r, i, x, hm, h => by
    simp only [List.mapM_cons, Option.bind_eq_bind, Option.pure_def] at hm
    cases ha : f a with
    | none => simp [ha] at hm
    | some b =>
      cases hr : l.mapM f with
      | none => simp [ha, hr] at hm
      | some bs =>
        simp [ha, hr] at hm
        subst hm
        cases i with
        | zero => simp at h; subst h; exact ⟨b, ha, rfl⟩
        | succ i => simp at h; obtain ⟨y, h1, h2⟩ := mapM_get hr h; exact ⟨y, h1, by simpa using h2⟩

/-- A struct's parts go in. -/
theorem buildParts_rep {s : TypeId} {fs : Array Field} {places : List (Nat × Nat)} (hu : P.underlying s = some (.struct fs)) (hp : fs.toList.mapM (fun f => (P.info? f.type).map fun i => (f.offset, i.size)) = some places) (h : InvG sh0 w0 G0 ρ σ a w sh F β) :
    ∀ {ps : List (Nat × Operand)} {nv : Nat} {cs : List A} {cur : Array Value} {es : List Em} {xs : List A} {l : List (Bool × Nat)} {more : List Em}, buildParts P s nv cs ps σ = some ((es, xs), l) → EmOk Fn ρ nv (es ++ more) → NamesRep sh w ρ cs cur.toList →
    ∃ r, Instr.fill (places.toArray[·]?) cur (ps.map fun x => (x.1, a.eval x.2)) = some r ∧ NamesRep sh w ρ xs r.toList ∧ EmOk Fn ρ (nv + ps.length) more
  | [], nv, cs, cur, es, xs, l, more, ho, he, hr => by
    have := Rd.pure_some ho
    simp only [Prod.mk.injEq] at this
    obtain ⟨rfl, rfl⟩ := this
    exact ⟨cur, rfl, hr, by simpa using he⟩
  | (i, x) :: ps, nv, cs, cur, es, xs, l, more, ho, he, hr => by
    unfold buildParts at ho
    obtain ⟨⟨off, ft⟩, l1, l2, h1, ho1, _⟩ := Rd.bind_some ho
    have hf := Rd.ofO_some h1
    dsimp only at ho1
    obtain ⟨c, l3, l4, h2, ho2, _⟩ := Rd.bind_some ho1
    obtain ⟨_, l5, l6, h3, ho3, _⟩ := Rd.bind_some ho2
    have hg := Rd.guard_some h3
    simp only [Bool.and_eq_true, decide_eq_true_eq, bne_iff_ne] at hg
    obtain ⟨hg1, hg2⟩ := hg
    obtain ⟨d1, e1, r1⟩ := lookSh_rep h h2
    obtain ⟨fs', f, hu', hfi, hoff, hft⟩ := fieldOf_some hf
    rw [hu] at hu'
    simp only [Option.some.injEq, TypeDesc.struct.injEq] at hu'
    subst hu'
    obtain ⟨pl, hpl, hpi⟩ := mapM_get hp (by simpa using hfi)
    have hpi : places.toArray[i]? = some (off, P.cellsOf ft) := by
      rw [List.getElem?_toArray, hpi]
      cases hi : P.info? f.type with
      | none => rw [hi] at hpl; cases hpl
      | some it =>
        rw [hi] at hpl
        simp only [Option.map_some, Option.some.injEq] at hpl
        rw [← hpl, hoff, ← hft]
        simp [Program.cellsOf, hi]
    have hcl := hr.length
    rw [Array.length_toList] at hcl
    -- one part goes in
    have hstep : ∀ (names : List A) (es' : List Em) (xs' : List A) (l' : List (Bool × Nat)), NamesRep sh w ρ names (a.eval x).cells.toList → names.length = P.cellsOf ft →
        buildParts P s (nv + 1) (cs.take off ++ names ++ cs.drop (off + P.cellsOf ft)) ps σ = some ((es', xs'), l') → EmOk Fn ρ (nv + 1) (es' ++ more) →
        ∃ r, Instr.fill (places.toArray[·]?) cur (((i, x) :: ps).map fun x => (x.1, a.eval x.2)) = some r ∧ NamesRep sh w ρ xs' r.toList ∧ EmOk Fn ρ (nv + ((i, x) :: ps).length) more := by
      intro names es' xs' l' hnr hnl hb hem
      have hvl := hnr.length
      rw [hnl] at hvl
      have hvs : (a.eval x).cells.size = P.cellsOf ft := by rw [← Array.length_toList]; exact hvl
      have hsp := fold_splice off (a.eval x).cells.toList cur (by rw [hvl]; omega)
      have hnext : NamesRep sh w ρ (cs.take off ++ names ++ cs.drop (off + P.cellsOf ft)) ((a.eval x).cells.toList.zipIdx.foldl (fun cs (x : Value × Nat) => cs.setIfInBounds (off + x.2) x.1) cur).toList := by
        rw [hsp, hvl]
        exact ((hr.take off).app hnr).app (hr.drop _)
      obtain ⟨r, q1, q2, q3⟩ := buildParts_rep hu hp h hb hem hnext
      refine ⟨r, ?_, q2, by rw [List.length_cons]; rwa [show nv + (ps.length + 1) = nv + 1 + ps.length by omega]⟩
      simp only [List.map_cons]
      unfold Instr.fill
      simp only [hpi, hvs]
      rw [if_neg (by simp; omega)]
      have : Array.foldl (fun cs (x : Value × Nat) => cs.setIfInBounds (off + x.2) x.1) cur (a.eval x).cells.zipIdx = (a.eval x).cells.toList.zipIdx.foldl (fun cs (x : Value × Nat) => cs.setIfInBounds (off + x.2) x.1) cur := by
        rw [← Array.foldl_toList]; simp
      rw [← q1, ← this]
    cases hagg : isAggB P ft with
    | true =>
      simp only [hagg, if_true] at ho3
      obtain ⟨⟨es', xs'⟩, l7, l8, h4, ho4, _⟩ := Rd.bind_some ho3
      have := Rd.pure_some ho4
      simp only [Prod.mk.injEq] at this
      obtain ⟨rfl, rfl⟩ := this
      obtain ⟨⟨dy, k1, k2⟩, hem⟩ := he
      unfold ev at k1
      simp only [evAs, e1] at k1
      obtain ⟨vs, hvs, hl, hrep, _⟩ := all_rep k1 r1 k2
      obtain ⟨ds, q1, q2⟩ := shCells_rep (shCells_cellsM (b := .var nv) (off := 0)) hrep
      subst hvs
      have hnr := NamesRep.of q1 q2
      exact hstep _ _ _ _ hnr (by rw [← hnr.length]; exact hl) h4 hem
    | false =>
      simp only [hagg, Bool.false_eq_true, if_false] at ho3
      obtain ⟨_, l9, l10, h5, ho5, _⟩ := Rd.bind_some ho3
      have hn1 := Rd.guard_some h5
      have hn1 : P.cellsOf ft = 1 := by simpa using hn1
      obtain ⟨⟨es', xs'⟩, l7, l8, h4, ho4, _⟩ := Rd.bind_some ho5
      have := Rd.pure_some ho4
      simp only [Prod.mk.injEq] at this
      obtain ⟨rfl, rfl⟩ := this
      obtain ⟨⟨dy, k1, k2⟩, hem⟩ := he
      unfold ev at k1
      simp only [evAs, e1, evX] at k1
      split at k1
      · cases k1
      · rename_i hna
        simp only [Option.some.injEq] at k1
        subst k1
        have hna : d1.1.isAgg = false := by simpa using hna
        have hr1 := valRep_cells r1
        obtain ⟨u, hu1⟩ := hr1.single hna
        rw [hu1] at hr1
        refine hstep [.var nv] _ _ _ ?_ (by simp [hn1]) h4 hem
        rw [hu1]
        exact ⟨u, [], d1, rfl, k2, ⟨hna, hr1⟩, rfl⟩

theorem sound_build {t : TypeId} {ps : Array (Nat × Operand)} {nv : Nat} (h : InvG sh0 w0 G0 ρ σ a w sh F β) (hop : o.op = .build t ps)
    (hd : o.dst = some d) (hlt : DstOk σ d) (hs : stBuild P nv d t ps.toList σ = some (st, l)) (he : EmOk Fn ρ nv st.em) : o.wp P a w (Inv sh0 w0 G0 ρ (σ.apply st)) Q := by
  unfold stBuild at hs
  obtain ⟨τ, l1, l2, h1, hs1, _⟩ := Rd.bind_some hs
  obtain ⟨cs, l3, l4, h2, hs2, _⟩ := Rd.bind_some hs1
  obtain ⟨zs, l5, l6, h3, hs3, _⟩ := Rd.bind_some hs2
  have hzs := Rd.ofO_some h3
  obtain ⟨_, l7, l8, h4, hs4, _⟩ := Rd.bind_some hs3
  have hz := Rd.guard_some h4
  obtain ⟨places, l15, l16, h7, hs7, _⟩ := Rd.bind_some hs4
  have hpl := Rd.ofO_some h7
  obtain ⟨⟨es, xs⟩, l9, l10, h5, hs5, _⟩ := Rd.bind_some hs7
  have := Rd.pure_some hs5
  subst this
  obtain ⟨i, z, ds, hi, hzv, e3, hat⟩ := zero_atoms (ρ := ρ) (sh := sh) (w := w) hz hzs
  unfold placesOf at hpl
  generalize hu : P.underlying t = u at hpl
  split at hpl
  · rename_i fs
    obtain ⟨r, hr, hnr, hem⟩ := buildParts_rep hu hpl h h5 he (NamesRep.of e3 hat)
    obtain ⟨dy, k1, k2⟩ := hem.1
    unfold ev at k1
    obtain ⟨ds', q1, q2⟩ := hnr.to
    rw [show (Ex.mk .mk xs).args = xs from rfl, q1] at k1
    obtain ⟨p1, p2, _, _⟩ := ofCells_rep q2 k1
    have hb : P.built t (ps.map fun (i, x) => (i, a.eval x)).toList = some r := by
      unfold Program.built
      simp only [hi, hu, hzv, hpl]
      have : (ps.map fun (i, x) => (i, a.eval x)).toList = ps.toList.map fun x => (x.1, a.eval x.2) := by simp
      rw [this]
      exact hr
    refine wp_value (v := .agg r) (w' := w) ?_ ?_
    · unfold execOp
      rw [hop]
      simp only [Sem.run_bind, run_build w t _ r hb, Result.andThen_ok, Sem.run_pure]
    · rw [hd]
      exact h.putSh hlt (c := .var (nv + ps.toList.length)) k2 ⟨r.toList, by rw [p2]; simp [valOf], p1⟩
  · cases hpl

end
end Go.Vm
