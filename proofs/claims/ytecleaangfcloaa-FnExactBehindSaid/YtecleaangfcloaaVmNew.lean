/- Each operation does what its name says: new rows, structs, conversions. Lemmas alone, no statement. -/
import Derived.Test.YtecleaangfcloaaVmOps3
import Derived.Great.BuildSlice
namespace Go.Vm
set_option linter.unusedVariables false
set_option linter.unusedSimpArgs false
open Go.RowKit

section
variable {P : Program} {C : Nat → Option Sig} {Fn : Fns} {sh0 : Nat → Prop} {w0 : World} {G0 : Frm} {ρ : List Dy} {σ : Sg} {a : Act} {w w' : World}
  {sh : Nat → Prop} {F : Bool → Nat → List Nat} {β : Nat → Nat} {o : Oper} {st : Step} {l : List (Bool × Nat)} {d : Nat} {Q : Exit → Act → World → Prop}

/-- A new row, put into a slot; K: what its elements own, no one's till now. -/
theorem InvG.newRow (h : InvG sh0 w0 G0 ρ σ a w sh F β) (hd : DstOk σ d) {τ : Ty} {m : Md} {l : D (.sl τ)} {ar : Array Value} {ty : TypeId} {fz : Nat × Nat} {cap : Nat} {c : A} {K : List Nat} (hb : Below w.heap.size w w')
    (hrow : OwnRow sh w' τ m l w.heap.size cap ar ty fz K) (hK : Free G0 w0 w sh F K) (hc : evA ρ c = some ⟨.sl τ, l⟩) :
    Inv sh0 w0 G0 ρ (σ.putS (d, .at c (.own m))) (a.put (some d) (.slice (some ⟨w.heap.size, 0, none⟩) (List.length l) cap)) w' := by
  have hg := h.grow hb
  refine ⟨_, _, _, hg.putD (d := d) (s := .at c (.own m)) (X := w.heap.size :: K) hd ⟨_, hc, hrow.val⟩ (by simp [roots]) trivial (List.nodup_cons.2 ⟨fun hm => Nat.lt_irrefl _ (hK.own _ hm).2.1, hK.nd⟩) (fun b hb' => ?_) (fun b hb' k j _ hm => ?_)⟩
  · rcases List.mem_cons.1 hb' with rfl | hb'
    · exact ⟨.inr h.ext.size, lt_of_get hrow.heap, fun hs => Nat.lt_irrefl _ (h.sh_lt _ hs)⟩
    · exact ⟨(hK.own b hb').1, Nat.lt_of_lt_of_le (hK.own b hb').2.1 hb.size, (hK.own b hb').2.2⟩
  · rcases List.mem_cons.1 hb' with rfl | hb'
    · exact Nat.lt_irrefl _ (h.own k j _ hm).2.1
    · exact hK.out b hb' k j hm

theorem repL_growM {τ : Ty} {m : Md} {l : D (.sl τ)} {vs : List Value} {K : List Nat} (hs : ∀ b, sh b → b < w.heap.size) (hK : ∀ b ∈ K, b < w.heap.size) (hb : Below w.heap.size w w') (h : RepL (fun x vs F => Rep sh w τ m x vs F) l vs K) : RepL (fun x vs F => Rep sh w' τ m x vs F) l vs K :=
  RepL.imp h (fun x vs G hG hh => Rep.frame (fun b hb' => ⟨hb', hb.block b (hs b hb')⟩) hh (fun b hb' => hb.block b (hK b (hG b hb'))))

theorem repL_grow {τ : Ty} {l : D (.sl τ)} {vs : List Value} (hs : ∀ b, sh b → b < w.heap.size) (hb : Below w.heap.size w w') (h : RepL (fun x vs F => Rep sh w τ .sh x vs F) l vs []) : RepL (fun x vs F => Rep sh w' τ .sh x vs F) l vs [] :=
  repL_growM hs (by simp) hb h

/-- What a row's cells are, when they are read. -/
def ElCells (sh : Nat → Prop) (w : World) (τ : Ty) (m : Md) (l : D (.sl τ)) (v : Value) (K : List Nat) : Prop :=
  ∃ ad cap news, v = .slice ad (List.length l) cap ∧ news.length = List.length l * τ.n ∧ RepL (fun x vs F => Rep sh w τ m x vs F) l news K ∧ (ad = none → news = []) ∧ ∀ a', ad = some a' → ∀ j u, news[j]? = some u → w.cell? (a'.add j) = some u

theorem el_own {τ : Ty} {l : D (.sl τ)} {m : Md} {v : Value} {G : List Nat} (h : ValRep sh w ⟨.sl τ, l⟩ (.own m) v G) (hG : G.Nodup) :
    ∃ K, ElCells sh w τ m l v K ∧ (∀ b ∈ K, b ∈ G) ∧ K.Nodup := by
  obtain ⟨vs, rfl, hr⟩ := h
  obtain ⟨ad, cap, rfl, hc, hr⟩ := hr
  rcases hr with ⟨h0, h1, h2⟩ | ⟨b, c, ty, fz, F', rfl, rfl, hw, hsz, hz, hr⟩
  · have h0 : l = [] := h0
    subst h0
    exact ⟨[], ⟨ad, cap, [], rfl, by simp, ⟨rfl, rfl⟩, fun _ => rfl, fun _ _ j u hu => by simp at hu⟩, by simp, by simp⟩
  · have hr : RepL (fun x vs F => Rep sh w τ m x vs F) l (c.toList.take (τ.n * List.length l)) F' := hr
    refine ⟨F', ⟨_, cap, _, rfl, by rw [RepL.len (fun x vs F h => Rep.len h) hr, Nat.mul_comm], hr, by simp, fun a' ha j u hu => ?_⟩, fun b hb => List.mem_cons_of_mem _ hb, (List.nodup_cons.1 hG).2⟩
    simp only [Option.some.injEq] at ha
    subst ha
    rw [add_off]
    rw [List.getElem?_take] at hu
    split at hu
    · simp [World.cell?, hw]
      simpa using hu
    · cases hu

/-- What a row's cells are, when they are read. -/
theorem el_cells {τ : Ty} {l : D (.sl τ)} {m : Md} {v : Value} {G : List Nat} (hm : m = .sh ∨ m = .own .sh) (h : ValRep sh w ⟨.sl τ, l⟩ m v G) : ElCells sh w τ .sh l v [] := by
  rcases hm with rfl | rfl
  · obtain ⟨vs, rfl, hr⟩ := h
    obtain ⟨ad, cap, rfl, hc, _, hr⟩ := hr
    rcases hr with h0 | ⟨b, off, c, ty, fz, rfl, hb, hw, hr⟩
    · have h0 : l = [] := h0
      subst h0
      exact ⟨ad, cap, [], rfl, by simp, ⟨rfl, rfl⟩, fun _ => rfl, fun _ _ j u hu => by simp at hu⟩
    · have hr : RepL (fun x vs F => Rep sh w τ .sh x vs F) l ((c.toList.drop off).take (τ.n * List.length l)) [] := hr
      refine ⟨_, cap, _, rfl, by rw [RepL.len (fun x vs F h => Rep.len h) hr, Nat.mul_comm], hr, by simp, fun a' ha j u hu => ?_⟩
      simp only [Option.some.injEq] at ha
      subst ha
      rw [add_off]
      rw [List.getElem?_take] at hu
      split at hu
      · rw [List.getElem?_drop] at hu
        simp [World.cell?, hw]
        simpa using hu
      · cases hu
  · obtain ⟨vs, rfl, hr⟩ := h
    obtain ⟨ad, cap, rfl, hc, hr⟩ := hr
    rcases hr with ⟨h0, h1, h2⟩ | ⟨b, c, ty, fz, F', rfl, rfl, hw, hsz, hz, hr⟩
    · have h0 : l = [] := h0
      subst h0
      exact ⟨ad, cap, [], rfl, by simp, ⟨rfl, rfl⟩, fun _ => rfl, fun _ _ j u hu => by simp at hu⟩
    · have hF := RepL.empty (fun x vs G h => Rep.sh_nil h) hr
      subst hF
      have hr : RepL (fun x vs F => Rep sh w τ .sh x vs F) l (c.toList.take (τ.n * List.length l)) [] := hr
      refine ⟨_, cap, _, rfl, by rw [RepL.len (fun x vs F h => Rep.len h) hr, Nat.mul_comm], hr, by simp, fun a' ha j u hu => ?_⟩
      simp only [Option.some.injEq] at ha
      subst ha
      rw [add_off]
      rw [List.getElem?_take] at hu
      split at hu
      · simp [World.cell?, hw]
        simpa using hu
      · cases hu

theorem run_firstCells_of {size n : Nat} {ad : Option Addr} {len cap : Nat} {news : List Value} (hl : news.length = n * size) (h0 : ad = none → news = []) (h : ∀ a', ad = some a' → ∀ j u, news[j]? = some u → w.cell? (a'.add j) = some u) :
    (Builtin.firstCells size n (.slice ad len cap)).run P w = .ok news.toArray w := by
  cases ad with
  | none => rw [h0 rfl]; exact run_firstCells_none (P := P) w size n len cap
  | some b => exact run_firstCells_some (P := P) w size n b len cap news hl (h b rfl)

/-- 'append' makes a new row. -/
theorem run_append_new {t ty e : TypeId} {i : TypeInfo} {z : Value} (ht : P.underlying t = some (.slice e)) (hi : P.info? e = some i) (hz : i.zero = some z)
    {b1 b2 : Option Addr} {sLen sCap n c : Nat} {olds news : List Value} (hlo : olds.length = sLen * i.size) (ho0 : b1 = none → olds = []) (ho : ∀ a', b1 = some a' → ∀ j u, olds[j]? = some u → w.cell? (a'.add j) = some u)
    (hln : news.length = n * i.size) (hn0 : b2 = none → news = []) (hn : ∀ a', b2 = some a' → ∀ j u, news[j]? = some u → w.cell? (a'.add j) = some u)
    (hg : sCap < sLen + n) (h63 : ((sLen + n : Nat) : Int) ≤ 9223372036854775807) (hfit : Builtin.nextslicecap (sLen + n) sCap * i.bytes ≤ 281474976710656) :
    (Builtin.append_ #[t, t] ty #[.slice b1 sLen sCap, .slice b2 n c]).run P w =
      .ok (.slice (some ⟨w.heap.size, 0, none⟩) (sLen + n) (grownCap w (sLen + n) sCap e))
        (w.drew.alloc (.cells (olds.toArray ++ news.toArray ++ Builtin.zeroCells z.cells (grownCap w (sLen + n) sCap e - (sLen + n))) e)) := by
  have hn' : ¬ (sLen + n ≤ sCap) := by omega
  have h63' : ¬ (9223372036854775807 < ((sLen : Int) + (n : Int))) := by omega
  have h48' : ¬ (281474976710656 < Builtin.nextslicecap (sLen + n) sCap * i.bytes) := by omega
  have hf : (Builtin.firstCells i.size n (.slice b2 n c)).run P w.drew = .ok news.toArray w.drew := run_firstCells_of hln hn0 (by simpa using hn)
  have hfo : (Builtin.firstCells i.size sLen (.slice b1 sLen sCap)).run P w.drew = .ok olds.toArray w.drew := run_firstCells_of hlo ho0 (by simpa using ho)
  simp [Builtin.append_, run_underlying ht, sizeOf, typeInfo, zeroValue, hi, hz, Builtin.lenOf, hn', h63', h48', Question.forced, hf, hfo, newRow, grownCap]
  congr 2
  apply Array.ext'
  simp [List.append_assoc]

/-- 'append' with room. -/
theorem run_append_in {t ty e : TypeId} {i : TypeInfo} (ht : P.underlying t = some (.slice e)) (hi : P.info? e = some i)
    {g : Nat} {b2 : Option Addr} {sLen sCap n c : Nat} {cur : Array Value} {te : TypeId} {fz : Nat × Nat} {news : List Value} (hgw : w.heap[g]? = some (.cells cur te fz)) (hfz : ∀ i, fz.1 ≤ i → i < fz.2 → cur.size ≤ i)
    (hln : news.length = n * i.size) (hn0 : b2 = none → news = []) (hn : ∀ a', b2 = some a' → ∀ j u, news[j]? = some u → w.cell? (a'.add j) = some u) (h1 : ∀ u ∈ news, u.oneCell' = true)
    (hroom : sLen + n ≤ sCap) (hfit : sLen * i.size + news.length ≤ cur.size) :
    (Builtin.append_ #[t, t] ty #[.slice (some ⟨g, 0, none⟩) sLen sCap, .slice b2 n c]).run P w =
      .ok (.slice (some ⟨g, 0, none⟩) (sLen + n) sCap) (w.setRow g (cur.toList.take (sLen * i.size) ++ news ++ cur.toList.drop (sLen * i.size + news.length)).toArray) := by
  have hf : (Builtin.firstCells i.size n (.slice b2 n c)).run P w = .ok news.toArray w := run_firstCells_of hln hn0 hn
  have hst := run_storeCells_fz P g (sLen * i.size) te fz news 0 cur w hgw hfz (by simpa using hfit) h1
  simp only [Nat.add_zero] at hst
  simp [Builtin.append_, run_underlying ht, sizeOf, typeInfo, hi, Builtin.lenOf, hroom, hf, Addr.add_lit, hst]

theorem RepL.forall {α : Type} {R : α → List Value → List Nat → Prop} {p : Value → Prop} (hR : ∀ x vs F, R x vs F → ∀ u ∈ vs, p u) : ∀ {xs : List α} {vs : List Value} {F : List Nat}, RepL R xs vs F → ∀ u ∈ vs, p u
  | [], _, _, h, u, hu => by rw [h.1] at hu; simp at hu
  | x :: xs, _, _, h, u, hu => by
    obtain ⟨v1, v2, F1, F2, rfl, rfl, h1, h2⟩ := h
    rcases List.mem_append.1 hu with hu | hu
    · exact hR _ _ _ h1 u hu
    · exact RepL.forall hR h2 u hu

theorem nil_own' {e : Ty} {m m' : Md} {v : Value} {X : List Nat} (h : ValRep sh w ⟨.sl e, []⟩ (.own m) v X) : ValRep sh w ⟨.sl e, []⟩ (.own m') v X := by
  obtain ⟨vs, hv, ad, cap, h1, h2, h3⟩ := h
  refine ⟨vs, hv, ad, cap, h1, h2, h3.imp id ?_⟩
  rintro ⟨b, c, ty, fz, F', k1, k2, k3, k4, k5, k6⟩
  exact ⟨b, c, ty, fz, F', k1, k2, k3, k4, k5, k6⟩

theorem appOk_rep {x : A} {m e : Md} {d1 : Dy} {v : Value} {X : List Nat} (hok : appOk e x m = true) (hx : evA ρ x = some d1) (h : ValRep sh w d1 m v X) : ValRep sh w d1 (.own e) v X := by
  unfold appOk at hok
  split at hok
  · simp only [Bool.or_eq_true, beq_iff_eq] at hok
    rcases hok with rfl | hok
    · exact h
    · split at hok
      · simp only [evA, Option.some.injEq] at hx
        subst hx
        exact nil_own' h
      · cases hok
  · cases hok

theorem lookEl_rep {t : TypeId} {x : Operand} {c : A} (h : InvG sh0 w0 G0 ρ σ a w sh F β) (ho : lookEl P t x σ = some (c, l)) :
    ∃ d m G, evA ρ c = some d ∧ ValRep sh w d m (a.eval x) G ∧ (m = .sh ∨ m = .own .sh) := by
  unfold lookEl at ho
  obtain ⟨s, l1, l2, h1, ho', _⟩ := Rd.bind_some ho
  have hat : ∀ (y : A) (m : Md), s = .at y m → ∃ d G, evA ρ y = some d ∧ ValRep sh w d m (a.eval x) G := by
    rintro y m rfl
    rcases opnd_rep h h1 with ⟨i, rfl, hs, hr⟩ | ⟨c', d, v, _, hc, hd, hr⟩ | ⟨_, _, hc⟩
    · obtain ⟨d, e1, e2⟩ := hr
      exact ⟨d, _, e1, e2⟩
    · simp only [SV.at.injEq] at hc
      obtain ⟨rfl, rfl⟩ := hc
      exact ⟨d, [], hd, valRep_atom hr⟩
    · cases hc
  split at ho'
  · rename_i y
    have := Rd.pure_some ho'
    subst this
    obtain ⟨d, G, e1, e2⟩ := hat _ _ rfl
    exact ⟨d, _, G, e1, e2, .inl rfl⟩
  · rename_i y
    have := Rd.pure_some ho'
    subst this
    obtain ⟨d, G, e1, e2⟩ := hat _ _ rfl
    exact ⟨d, _, G, e1, e2, .inr rfl⟩
  · rename_i e m _
    have := Rd.pure_some ho'
    subst this
    obtain ⟨d, G, e1, e2⟩ := hat _ _ rfl
    have e1' := e1
    simp only [evA, Option.some.injEq] at e1'
    subst e1'
    exact ⟨_, _, _, e1, nil_sh e2, .inl rfl⟩
  · rename_i b r c2
    obtain ⟨⟨y, m⟩, l3, l4, h2, ho2, _⟩ := Rd.bind_some ho'
    obtain ⟨_, l5, l6, h3, ho3, _⟩ := Rd.bind_some ho2
    have hm := Rd.guard_some h3
    have hm : m = .sh := by cases m <;> simp [Md.isSh] at hm; rfl
    subst hm
    have := Rd.pure_some ho3
    subst this
    obtain ⟨q1, _⟩ := opnd_rf h h1
    obtain ⟨d, G, e1, e2, _⟩ := root_rep h (rootA_some h2) q1
    exact ⟨d, _, G, e1, e2, .inr rfl⟩
  · cases ho'

/-- THE ELEMENTS THAT ARE APPENDED. -/
theorem elV_rep {e : Md} {t : TypeId} {x : Operand} {k : Take} {nv : Nat} (h : InvG sh0 w0 G0 ρ σ a w sh F β) (ho : elV P nv e t x σ = some (k, l)) (he : EmOk Fn ρ nv k.em) :
    ∃ sh' F' X d, InvG sh0 w0 G0 ρ (σ.take k) a w sh' F' β ∧ evA ρ k.x = some d ∧ k.mild ∧ k.tame σ ∧ Took G0 w0 w sh F sh' F' X ∧ ∀ (τ : Ty) (r : D (.sl τ)), d = ⟨.sl τ, r⟩ → ∃ K, ElCells sh' w τ e r (a.eval x) K ∧ (∀ b ∈ K, b ∈ X) ∧ K.Nodup := by
  unfold elV at ho
  split at ho
  · rename_i hm
    have hm : e = .sh := by cases e <;> simp [Md.isSh] at hm; rfl
    subst hm
    have hfz : ∀ {l3 : List (Bool × Nat)}, frzV P nv t x σ = some (k, l3) → _ := fun ho3 => frz_rep h ho3 he
    obtain ⟨s, l1, l2, h1, ho2, _⟩ := Rd.bind_some ho
    split at ho2
    · rename_i y
      have := Rd.pure_some ho2
      subst this
      rcases opnd_rep h h1 with ⟨i, rfl, hs, hr⟩ | ⟨c', d, v, _, hc, hd, hr⟩ | ⟨_, _, hc⟩
      · obtain ⟨d, e1, e2⟩ := hr
        exact ⟨sh, F, [], d, h, e1, fun y hy => by simp at hy, tame_of fun y hy => by simp at hy, .refl, fun τ r hd => by subst hd; exact ⟨[], el_cells (.inr rfl) e2, by simp, by simp⟩⟩
      · simp only [SV.at.injEq] at hc
        obtain ⟨rfl, hm⟩ := hc
        rw [← hm] at hr
        exact ⟨sh, F, [], d, h, hd, fun y hy => by simp at hy, tame_of fun y hy => by simp at hy, .refl, fun τ r hd => by subst hd; exact ⟨[], el_cells (.inr rfl) (valRep_atom hr), by simp, by simp⟩⟩
      · cases hc
    · obtain ⟨y, l3, l4, h3, ho3, _⟩ := Rd.bind_some ho2
      have := Rd.pure_some ho3
      subst this
      obtain ⟨d, m, G, e1, e2, e3⟩ := lookEl_rep h h3
      exact ⟨sh, F, [], d, h, e1, fun y hy => by simp at hy, tame_of fun y hy => by simp at hy, .refl, fun τ r hd => by subst hd; exact ⟨[], el_cells e3 e2, by simp, by simp⟩⟩
    · obtain ⟨sh', F', d, hI, e1, e2, e3, e4⟩ := hfz ho2
      exact ⟨sh', F', [], d, hI, e1, frzV_mild ho2, frzV_tame ho2, e4, fun τ r hd => by subst hd; exact ⟨[], el_cells (.inl rfl) e2, by simp, by simp⟩⟩
  · obtain ⟨k', l1, l2, h1, ho2, _⟩ := Rd.bind_some ho
    obtain ⟨_, l3, l4, h2, ho3, _⟩ := Rd.bind_some ho2
    have hg := Rd.guard_some h2
    have := Rd.pure_some ho3
    subst this
    obtain ⟨F', X, d, hI, e1, e2, e3⟩ := take_rep h h1 he
    have hmi := takeV_mild h1
    have hta := takeV_tame h1
    have e2' := appOk_rep hg e1 e2
    exact ⟨sh, F', X, d, hI, e1, hmi, hta, e3, fun τ r hd => by subst hd; exact el_own e2' e3.free.nd⟩

theorem app_inv {e : Ty} {d1 d2 dy : Dy} (h : evX (.app e) [d1, d2] = some dy) : ∃ (l r : D (.sl e)), d1 = ⟨.sl e, l⟩ ∧ d2 = ⟨.sl e, r⟩ ∧ List.length l + List.length r < maxRow ∧ dy = ⟨.sl e, List.append l r⟩ := by
  simp only [evX] at h
  cases h1 : d1.as (.sl e) with
  | none => rw [h1] at h; cases h
  | some l =>
    cases h2 : d2.as (.sl e) with
    | none => rw [h1, h2] at h; cases h
    | some r =>
      rw [h1, h2] at h
      dsimp only at h
      split at h
      · rename_i hlt
        simp only [Option.some.injEq] at h
        exact ⟨l, r, as_inv h1, as_inv h2, hlt, h.symm⟩
      · cases h

theorem zOk_some {e : TypeId} {n : Nat} (h : zOk P e n = true) (hn : P.cellsOf e = n) : ∃ i z, P.info? e = some i ∧ i.zero = some z ∧ z.cells.size = n ∧ i.size = n ∧ i.bytes = P.bytesOf e := by
  unfold zOk at h
  cases hi : P.info? e with
  | none => rw [hi] at h; cases h
  | some i =>
    rw [hi] at h
    dsimp only at h
    cases hz : i.zero with
    | none => rw [hz] at h; cases h
    | some z =>
      rw [hz] at h
      refine ⟨i, z, rfl, hz, by simpa using h, ?_, ?_⟩
      · rw [← hn]; simp [Program.cellsOf, hi]
      · simp [Program.bytesOf, hi]

theorem elemOf_some {t e : TypeId} (h : elemOf P t = some e) : P.underlying t = some (.slice e) := by
  unfold elemOf at h
  cases hu : P.underlying t with
  | none => rw [hu] at h; cases h
  | some u => ?_
  rw [hu] at h
  cases u with
  | slice e' => simp at h; rw [h]
  | _ => cases h

theorem sound_append {dp : Bool} {t : TypeId} {x y : Operand} {nv : Nat} {c : Call} (h : InvG sh0 w0 G0 ρ σ a w sh F β) (hop : o.op = .call c) (hc : c.callee = .builtin .append) (hx : c.args = ⟨[x, y]⟩) (ht : c.argTypes = ⟨[t, t]⟩)
    (hd : o.dst = some d) (hlt : DstOk σ d) (hs : stAppend P dp nv d t x y σ = some (st, l)) (he : EmOk Fn ρ nv st.em) : o.wp P a w (Inv sh0 w0 G0 ρ (σ.apply st)) Q := by
  unfold stAppend at hs
  obtain ⟨e, l1, l2, h1, hs1, _⟩ := Rd.bind_some hs
  have hel := elemOf_some (Rd.ofO_some h1)
  obtain ⟨τ, l3, l4, h2, hs2, _⟩ := Rd.bind_some hs1
  obtain ⟨_, l5, l6, h3, hs3, _⟩ := Rd.bind_some hs2
  have hg := Rd.guard_some h3
  obtain ⟨k, l7, l8, h4, hs4, _⟩ := Rd.bind_some hs3
  obtain ⟨_, l9, l10, h5, hs5, _⟩ := Rd.bind_some hs4
  have hok := Rd.guard_some h5
  obtain ⟨b, l11, l12, h6, hs6, _⟩ := Rd.bind_some hs5
  have := Rd.pure_some hs6
  subst this
  simp only [Bool.and_eq_true, beq_iff_eq, bne_iff_ne, decide_eq_true_eq] at hg
  obtain ⟨⟨⟨hn, hn0⟩, hby⟩, hzo⟩ := hg
  obtain ⟨i, z, hi, hz, hzs, hisz, hib⟩ := zOk_some hzo hn
  generalize hem0 : elMd dp τ = em at *
  have hrun : ∀ v w', (Builtin.append_ #[t, t] o.type #[a.eval x, a.eval y]).run P w = .ok v w' → (execOp a.eval o).run P w = .ok (.value v) w' := by
    intro v w' hv
    unfold execOp
    rw [hop]
    simp only [Sem.run_bind, resolve, hc, hx, ht, Sem.run_pure, Result.andThen_ok, invoke, builtin]
    have : (Array.map a.eval ⟨[x, y]⟩ : Array Value) = #[a.eval x, a.eval y] := by simp
    rw [this]
    rw [show (⟨[t, t]⟩ : Array TypeId) = #[t, t] from rfl, hv]
    rfl
  obtain ⟨hea, heb⟩ := he.split
  obtain ⟨hea1, hea2⟩ := (show EmOk Fn ρ nv (k.em ++ b.em) from hea).split
  obtain ⟨F1, X, d1, hI1, e1, r1, tk1⟩ := take_rep h h4 hea1
  have r1 := appOk_rep hok e1 r1
  obtain ⟨sh', F', X2, d2, hI2, e2, bm, bt, tk2, hcells⟩ := elV_rep (σ := σ.take k) hI1 h6 hea2
  obtain ⟨dy, k1, k2⟩ := heb.1
  unfold ev at k1
  simp only [evAs, e1, e2] at k1
  obtain ⟨l, r, rfl, rfl, hmax, rfl⟩ := app_inv k1
  obtain ⟨K2, ⟨ad2, cap2, news, hv2, hnl, hnr, hn0', hnc⟩, hK2, hK2n⟩ := hcells τ r rfl
  have hmild := takeV_mild h4
  have hI : InvG sh0 w0 G0 ρ (σ.take (k.and b)) a w sh' F' β := by rw [take_and hmild]; exact hI2
  have hdt := hlt.take ((takeV_tame h4).and bt)
  have happ := apply_take (σ := σ) (hmild.and bm) ((k.and b).em ++ [.e ⟨.app τ, [k.x, b.x]⟩]) [] [] [(d, .at (.var (nv + emN (k.and b).em)) (.own em))]
  rw [List.append_nil, List.append_nil] at happ
  rw [happ]
  obtain ⟨hXf, hXX⟩ := tk2.keep tk1.free
  have hK2f : Free G0 w0 w sh' F' K2 := (tk2.sub' hK2n hK2).free
  have r1 : ValRep sh' w ⟨.sl τ, l⟩ (.own em) (a.eval x) X := r1.frame (fun b hb => ⟨tk2.mono b hb, rfl⟩) (fun _ _ => rfl)
  -- a new row
  have hgrow : ∀ (ad : Option Addr) (cap : Nat) (olds : List Value) (K1 : List Nat), a.eval x = .slice ad (List.length l) cap → olds.length = List.length l * τ.n → RepL (fun x vs F => Rep sh' w τ em x vs F) l olds K1 → (∀ b ∈ K1, b ∈ X) → K1.Nodup → (ad = none → olds = []) →
      (∀ a', ad = some a' → ∀ j u, olds[j]? = some u → w.cell? (a'.add j) = some u) → cap < List.length l + List.length r → o.wp P a w (Inv sh0 w0 G0 ρ ((σ.take (k.and b)).putS (d, .at (.var (nv + emN (k.and b).em)) (.own em)))) Q := by
    intro ad cap olds K1 hv1 hol hor hK1 hK1n ho0 hoc hcap
    have hmr : List.length l + List.length r < 4294967296 := hmax
    have hfit : Builtin.nextslicecap (List.length l + List.length r) cap * i.bytes ≤ 281474976710656 :=
      growslice_fits hcap (by
        have : (List.length l + List.length r) * i.bytes ≤ 4294967296 * 32768 := Nat.mul_le_mul (by omega) (by rw [hib]; exact hby)
        omega)
    have hr := run_append_new (P := P) (w := w) (t := t) (ty := o.type) hel hi hz (olds := olds) (news := news) (b1 := ad) (b2 := ad2) (sLen := List.length l) (sCap := cap) (n := List.length r) (c := cap2) (by rw [hisz]; exact hol) ho0 hoc (by rw [hisz]; exact hnl) hn0' hnc hcap (by omega) hfit
    have hge := grownCap_ge w (List.length l + List.length r) cap e
    have hbel : Below w.heap.size w (w.drew.alloc (.cells (olds.toArray ++ news.toArray ++ Builtin.zeroCells z.cells (grownCap w (List.length l + List.length r) cap e - (List.length l + List.length r))) e)) := ((Below.refl _ _).drew).alloc (Nat.le_refl _) _
    have hKf : Free G0 w0 w sh' F' (K1 ++ K2) := by
      refine ⟨List.nodup_append.2 ⟨hK1n, hK2n, fun x hx y hy e => hXX x (hK1 x hx) (e ▸ hK2 y hy)⟩, fun b hb => ?_, fun b hb => ?_⟩
      · rcases List.mem_append.1 hb with hb | hb
        · exact hXf.own b (hK1 b hb)
        · exact hK2f.own b hb
      · rcases List.mem_append.1 hb with hb | hb
        · exact hXf.out b (hK1 b hb)
        · exact hK2f.out b hb
    refine wp_value (hrun _ _ (by rw [hv1, hv2]; exact hr)) ?_
    rw [hd]
    have hlen : List.length (List.append l r) = List.length l + List.length r := List.length_append
    have hrow : OwnRow sh' (w.drew.alloc (.cells (olds.toArray ++ news.toArray ++ Builtin.zeroCells z.cells (grownCap w (List.length l + List.length r) cap e - (List.length l + List.length r))) e)) τ em (List.append l r) w.heap.size (grownCap w (List.length l + List.length r) cap e) _ e (0, 0) (K1 ++ K2) :=
      { heap := new_block w.drew _
        room := by rw [hlen]; exact hge
        size := by
          simp only [Array.size_append, List.size_toArray, size_zeroCells, hzs, hol, hnl]
          rw [← Nat.add_mul, ← Nat.add_mul, Nat.mul_comm]
          congr 1
          omega
        frozen := .inl rfl
        rep := by
          have h1 := RepL.app hor hnr
          have h2 := repL_growM (τ := τ) (l := List.append l r) (vs := olds ++ news) hI.sh_lt (fun b hb => (hKf.own b hb).2.1) hbel (by simpa using h1)
          have : ((olds.toArray ++ news.toArray ++ Builtin.zeroCells z.cells (grownCap w (List.length l + List.length r) cap e - (List.length l + List.length r))).toList.take (τ.n * List.length (List.append l r))) = olds ++ news := by
            simp only [Array.toList_append, List.toList_toArray]
            have hl2 : (olds ++ news).length = τ.n * List.length (List.append l r) := by rw [List.length_append, hol, hnl, hlen, ← Nat.add_mul, Nat.mul_comm]
            rw [← hl2, List.take_left]
          rw [this]
          exact h2 }
    have := hI.newRow (c := .var (nv + emN (k.and b).em)) hdt hbel hrow hKf k2
    rw [hlen] at this
    exact this
  rcases own_row r1 with ⟨ad, hv1, rfl, hX0⟩ | ⟨g, cap, ar, ty, fz, K1, hv1, hXK, ho⟩
  · rcases Nat.eq_zero_or_pos (List.length r) with hr0 | hr0
    · -- nothing to nothing
      have hr0' : r = [] := List.eq_nil_of_length_eq_zero hr0
      subst hr0'
      have hnews : news = [] := by
        have : news.length = 0 := by rw [hnl]; simp
        exact List.eq_nil_of_length_eq_zero this
      subst hnews
      have hf : (Builtin.firstCells i.size 0 (.slice ad2 0 cap2)).run P w = .ok #[] w := run_firstCells_of (news := []) (by simp) (fun _ => rfl) hnc
      have hr : (Builtin.append_ #[t, t] o.type #[.slice ad 0 0, .slice ad2 0 cap2]).run P w = .ok (.slice ad 0 0) w := by
        cases ad <;> simp [Builtin.append_, run_underlying hel, sizeOf, typeInfo, hi, Builtin.lenOf, hf, storeCells]
      refine wp_value (hrun _ _ (by rw [hv1, hv2]; exact hr)) ?_
      rw [hd]
      refine ⟨_, _, _, hI.put_none (d := d) (s := .at (.var (nv + emN (k.and b).em)) (.own em)) hdt ⟨_, k2, [.slice ad 0 0], rfl, ad, 0, rfl, Nat.le_refl _, .inl ⟨rfl, rfl, rfl⟩⟩⟩
    · exact hgrow ad 0 [] [] hv1 (by simp) ⟨rfl, rfl⟩ (by simp) (by simp) (fun _ => rfl) (fun _ _ j u hu => by simp at hu) (by simpa using hr0)
  · have hXn := hXf.nd
    rw [hXK] at hXn
    have hXn' := List.nodup_cons.1 hXn
    have hK1X : ∀ b ∈ K1, b ∈ X := fun b hb => by rw [hXK]; exact List.mem_cons_of_mem _ hb
    rcases Nat.lt_or_ge cap (List.length l + List.length r) with hcap | hcap
    · have hol : (ar.toList.take (τ.n * List.length l)).length = List.length l * τ.n := by rw [RepL.len (fun x vs F h => Rep.len h) ho.rep, Nat.mul_comm]
      refine hgrow (some ⟨g, 0, none⟩) cap _ K1 hv1 hol ho.rep hK1X hXn'.2 (by simp) (fun a' ha j u hu => ?_) hcap
      simp only [Option.some.injEq] at ha
      subst ha
      rw [add_off]
      rw [List.getElem?_take] at hu
      split at hu
      · simp [World.cell?, ho.heap]
        simpa using hu
      · cases hu
    · -- in place
      have hone := RepL.forall (fun x vs F h => Rep.one' h) hnr
      have hsz : τ.n * cap = ar.size := ho.size.symm
      have hfit : List.length l * τ.n + news.length ≤ ar.size := by
        rw [hnl, ← Nat.add_mul, Nat.mul_comm, ← hsz]
        exact Nat.mul_le_mul_left _ hcap
      have hr := run_append_in (P := P) (w := w) (t := t) (ty := o.type) hel hi (g := g) (b2 := ad2) (sLen := List.length l) (sCap := cap) (n := List.length r) (c := cap2) (news := news) ho.heap ho.frozen.all (by rw [hisz]; exact hnl) hn0' hnc hone hcap (by rw [hisz]; exact hfit)
      rw [hisz] at hr
      refine wp_value (hrun _ _ (by rw [hv1, hv2]; exact hr)) ?_
      rw [hd]
      have hgX : g ∈ X := by rw [hXK]; simp
      have hown := hXf.own g hgX
      have hfree := hXf.out g hgX
      generalize hnew : (ar.toList.take (List.length l * τ.n) ++ news ++ ar.toList.drop (List.length l * τ.n + news.length)).toArray = ar1
      have hturn := hI.turn (w' := w.setRow g ar1) (L := [g]) (sh' := sh') (setRow_ext _ _ _)
        (fun b hb => by
          obtain rfl : b = g := by simpa using hb
          exact ⟨hfree, hown.2.2, hown.1⟩)
        (fun _ h => h) (fun b hb => ⟨by have := hI.sh_lt b hb; simpa using this, .inl hb⟩)
      have hlen : List.length (List.append l r) = List.length l + List.length r := List.length_append
      have hol : (ar.toList.take (List.length l * τ.n)).length = List.length l * τ.n := by
        simp only [List.length_take, Array.length_toList]
        omega
      have hgK2 : g ∉ K2 := fun hm => hXX g hgX (hK2 g hm)
      have hrow : OwnRow sh' (w.setRow g ar1) τ em (List.append l r) g cap ar1 ty fz (K1 ++ K2) :=
        { heap := setRow_heap w g ar ar1 ty fz ho.heap
          room := by rw [hlen]; exact hcap
          size := by
            rw [hsz, ← hnew]
            simp only [List.size_toArray, List.length_append, hol, List.length_drop, Array.length_toList]
            omega
          frozen := by
            have : ar1.size = ar.size := by
              rw [← hnew]
              simp only [List.size_toArray, List.length_append, hol, List.length_drop, Array.length_toList]
              omega
            rw [this]; exact ho.frozen
          rep := by
            have h0 := ho.rep
            rw [Nat.mul_comm] at h0
            have h1 := RepL.app h0 hnr
            have : ar1.toList.take (τ.n * List.length (List.append l r)) = ar.toList.take (List.length l * τ.n) ++ news := by
              rw [← hnew]
              have hl2 : (ar.toList.take (List.length l * τ.n) ++ news).length = τ.n * List.length (List.append l r) := by rw [List.length_append, hol, hnl, hlen, ← Nat.add_mul, Nat.mul_comm]
              rw [← hl2, List.toList_toArray, List.take_left]
            rw [this]
            exact RepL.imp h1 (fun x vs G hG hh => Rep.frame (fun b hb => ⟨hb, setRow_other w g b ar1 (fun e => hown.2.2 (e ▸ hb))⟩) hh (fun b hb => setRow_other w g b ar1 (fun e => by
              have := hG b hb
              rw [e] at this
              rcases List.mem_append.1 this with h1 | h1
              · exact hXn'.1 h1
              · exact hgK2 h1))) }
      have hin : ∀ b ∈ g :: (K1 ++ K2), b ∈ X ∨ b ∈ K2 := by
        intro b hb
        rcases List.mem_cons.1 hb with rfl | hb
        · exact .inl hgX
        · exact (List.mem_append.1 hb).imp (hK1X b) id
      have hput := hturn.putD (d := d) (s := .at (.var (nv + emN (k.and b).em)) (.own em)) (v := .slice (some ⟨g, 0, none⟩) (List.length (List.append l r)) cap) (X := g :: (K1 ++ K2)) hdt ⟨_, k2, hrow.val⟩ (by simp [roots]) trivial
        (List.nodup_cons.2 ⟨fun hm => by
          rcases List.mem_append.1 hm with h1 | h1
          · exact hXn'.1 h1
          · exact hgK2 h1, List.nodup_append.2 ⟨hXn'.2, hK2n, fun x hx y hy e => hXX x (hK1X x hx) (e ▸ hK2 y hy)⟩⟩)
        (fun b hb => by
          rcases hin b hb with h1 | h1
          · have := hXf.own b h1; exact ⟨this.1, by simpa using this.2.1, this.2.2⟩
          · have := hK2f.own b h1; exact ⟨this.1, by simpa using this.2.1, this.2.2⟩)
        (fun b hb k j _ => by
          rcases hin b hb with h1 | h1
          · exact hXf.out b h1 k j
          · exact hK2f.out b h1 k j)
      rw [hlen] at hput
      exact ⟨_, _, _, hput⟩

theorem zero_atoms {e : TypeId} {cs : List Cell} {zs : List A} (hz : zeroOk P e cs = true) (hs : shCells cs = some zs) :
    ∃ i z ds, P.info? e = some i ∧ i.zero = some z ∧ evAs ρ zs = some ds ∧ shAtoms sh w ds z.cells.toList ∧ RepL (one (CellRep sh w ρ)) cs z.cells.toList [] := by
  unfold zeroOk at hz
  cases hi : P.info? e with
  | none => rw [hi] at hz; cases hz
  | some i => ?_
  rw [hi] at hz
  dsimp only at hz
  cases hzv : i.zero with
  | none => rw [hzv] at hz; cases hz
  | some z => ?_
  rw [hzv] at hz
  simp only [Bool.and_eq_true, beq_iff_eq] at hz
  have hrep : RepL (one (CellRep sh w ρ)) cs z.cells.toList [] := zip_all_rep (by simpa using hz.2) hz.1
  obtain ⟨ds, h1, h2⟩ := shCells_rep hs hrep
  exact ⟨i, z, ds, rfl, hzv, h1, h2, hrep⟩

theorem knownA_sh : ∀ {cs : List Cell} {xs : List A}, shCells cs = some xs → knownA cs = some xs
  | [], xs, h => h
  | none :: cs, xs, h => by simp [shCells] at h
  | some (x, .sh) :: cs, xs, h => by
    simp only [shCells] at h
    obtain ⟨ys, hy, rfl⟩ := Option.map_eq_some_iff.1 h
    simp [knownA, knownA_sh hy]
  | some (.nil e, .own m) :: cs, xs, h => by
    simp only [shCells] at h
    obtain ⟨ys, hy, rfl⟩ := Option.map_eq_some_iff.1 h
    simp [knownA, knownA_sh hy]
  | some (.var _, .own m) :: cs, xs, h => by simp [shCells] at h
  | some (.fld _ _, .own m) :: cs, xs, h => by simp [shCells] at h
  | some (.int _ _, .own m) :: cs, xs, h => by simp [shCells] at h
  | some (.bool _, .own m) :: cs, xs, h => by simp [shCells] at h
  | some (.str _, .own m) :: cs, xs, h => by simp [shCells] at h
  | some (x, .pair _ _) :: cs, xs, h => by cases x <;> simp [shCells] at h

theorem madeCells_succ (z : Array Value) (k : Nat) (hz : 0 < z.size) : (madeCells z ((k + 1) * z.size)).toList = z.toList ++ (madeCells z (k * z.size)).toList := by
  unfold madeCells
  simp only [Array.toList_map, Array.toList_range]
  rw [Nat.succ_mul, Nat.add_comm, List.range_add, List.map_append, List.map_map]
  congr 1
  · apply List.ext_getElem?
    intro i
    rw [List.getElem?_map]
    by_cases hi : i < z.size
    · rw [List.getElem?_range hi]
      simp [Nat.mod_eq_of_lt hi, hi]
    · rw [List.getElem?_eq_none (by simpa using hi), List.getElem?_eq_none (by simpa using hi)]
      rfl
  · apply List.map_congr_left
    intro i _
    simp [Nat.add_mod_left]

theorem made_rep {τ : Ty} {m : Md} {y : D τ} {z : Array Value} (hz : 0 < z.size) (h : Rep sh w τ m y z.toList []) : ∀ k, RepL (fun x vs F => Rep sh w τ m x vs F) (List.replicate k y) (madeCells z (k * z.size)).toList []
  | 0 => ⟨by simp [madeCells], rfl⟩
  | k + 1 => by
    rw [madeCells_succ z k hz, List.replicate_succ]
    exact ⟨z.toList, _, [], [], rfl, rfl, h, made_rep hz h k⟩

theorem rep_inv {e : Ty} {d1 d2 dy : Dy} (h : evX (.rep e) [d1, d2] = some dy) : ∃ (k : IntKind) (j : Int) (y : D e), d1 = ⟨.int k, j⟩ ∧ d2 = ⟨e, y⟩ ∧ 0 ≤ j ∧ j < maxRow ∧ dy = ⟨.sl e, List.replicate j.toNat y⟩ := by
  obtain ⟨τ1, x1⟩ := d1
  cases τ1 <;> first | (simp [evX] at h; done) | skip
  rename_i k
  simp only [evX] at h
  cases h2 : d2.as e with
  | none => rw [h2] at h; cases h
  | some y =>
    rw [h2] at h
    dsimp only at h
    split at h
    · rename_i hc
      simp only [Option.some.injEq] at h
      exact ⟨k, x1, y, rfl, as_inv h2, hc.1, hc.2, h.symm⟩
    · cases h

theorem sound_makeSlice {dp : Bool} {t : TypeId} {x y : Operand} {nv : Nat} (h : InvG sh0 w0 G0 ρ σ a w sh F β) (hop : o.op = .makeSlice t x y)
    (hd : o.dst = some d) (hlt : DstOk σ d) (hs : stMakeSlice P dp nv d t x y σ = some (st, l)) (he : EmOk Fn ρ nv st.em) : o.wp P a w (Inv sh0 w0 G0 ρ (σ.apply st)) Q := by
  unfold stMakeSlice at hs
  obtain ⟨e, l1, l2, h1, hs1, _⟩ := Rd.bind_some hs
  have hel := elemOf_some (Rd.ofO_some h1)
  obtain ⟨τ, l3, l4, h2, hs2, _⟩ := Rd.bind_some hs1
  obtain ⟨n, l5, l6, h3, hs3, _⟩ := Rd.bind_some hs2
  obtain ⟨_, l7, l8, h4, hs4, _⟩ := Rd.bind_some hs3
  have hg := Rd.guard_some h4
  obtain ⟨cs, l9, l10, h5, hs5, _⟩ := Rd.bind_some hs4
  obtain ⟨zs, l11, l12, h6, hs6, _⟩ := Rd.bind_some hs5
  have hzs := Rd.ofO_some h6
  obtain ⟨_, l13, l14, h7, hs7, _⟩ := Rd.bind_some hs6
  have hz0 := Rd.guard_some h7
  simp only [Bool.and_eq_true] at hz0
  obtain ⟨hz, hdp⟩ := hz0
  simp only [Bool.and_eq_true, beq_iff_eq, bne_iff_ne, decide_eq_true_eq] at hg
  obtain ⟨⟨⟨hxy, hn⟩, hn0⟩, hby⟩ := hg
  obtain ⟨d1, sqd1, m1, X1, e1, r1, _⟩ := look_rep h h3
  obtain ⟨i, z, ds, hi, hzv, e3, hat, hzrep⟩ := zero_atoms (ρ := ρ) (sh := sh) (w := w) hz hzs
  have hisz : i.size = τ.n := by rw [← hn]; simp [Program.cellsOf, hi]
  have hib : i.bytes = P.bytesOf e := by simp [Program.bytesOf, hi]
  have hgo : ∀ (c : A) (dz : Dy) (j : Nat), evA ρ c = some dz → ∀ (dy : Dy), evX (.rep τ) [d1, dz] = some dy → ρ[j]? = some dy → Rep sh w dz.1 (elMd dp τ) dz.2 z.cells.toList [] →
      o.wp P a w (Inv sh0 w0 G0 ρ (σ.putS (d, .at (.var j) (.own (elMd dp τ))))) Q := by
    intro c dz j hc dy hev hj hrz
    obtain ⟨k, jj, yy, rfl, rfl, hj0, hjm, rfl⟩ := rep_inv hev
    have hzl : z.cells.size = τ.n := by rw [← Array.length_toList]; exact hrz.len
    have hx : a.eval x = .int k jj := valA_rep r1 rfl
    have hy : ∃ k', a.eval y = .int k' jj := by
      unfold lenSame at hxy
      split at hxy
      · have := beq_iff_eq.1 hxy
        subst this
        exact ⟨k, hx⟩
      · rename_i k1 n1 k2 n2
        have := beq_iff_eq.1 hxy
        subst this
        have hx' : Value.int k1 n1 = .int k jj := hx
        simp only [Value.int.injEq] at hx'
        exact ⟨k2, by show Value.int k2 n1 = _; rw [hx'.2]⟩
      · cases hxy
    obtain ⟨k', hy⟩ := hy
    have hjm' : jj < 4294967296 := hjm
    have hr := run_make (P := P) w t e i z hel hi hzv k k' jj jj hj0 (Int.le_refl _) (by
      rw [hib]
      have h1 : (P.bytesOf e : Int) ≤ 32768 := by omega
      calc (P.bytesOf e : Int) * jj ≤ 32768 * 4294967296 := Int.mul_le_mul h1 (by omega) hj0 (by omega)
        _ ≤ 281474976710656 := by omega) (by omega)
    have hbel : Below w.heap.size w (w.alloc (.cells (madeCells z.cells (jj.toNat * i.size)) e)) := (Below.refl _ _).alloc (Nat.le_refl _) _
    refine wp_value (v := .slice (some ⟨w.heap.size, 0, none⟩) jj.toNat jj.toNat) (w' := w.alloc (.cells (madeCells z.cells (jj.toNat * i.size)) e)) ?_ ?_
    · unfold execOp
      rw [hop]
      simp only [hx, hy, Sem.run_bind, hr, Result.andThen_ok, Sem.run_pure]
    · rw [hd]
      have hlen : List.length (List.replicate jj.toNat yy) = jj.toNat := List.length_replicate
      have hrow : OwnRow sh (w.alloc (.cells (madeCells z.cells (jj.toNat * i.size)) e)) τ (elMd dp τ) (List.replicate jj.toNat yy) w.heap.size jj.toNat (madeCells z.cells (jj.toNat * i.size)) e (0, 0) [] :=
        { heap := new_block w _
          room := by rw [hlen]; exact Nat.le_refl _
          size := by rw [size_madeCells, hisz, Nat.mul_comm]
          frozen := .inl rfl
          rep := by
            have h1 := made_rep (by rw [hzl]; exact Nat.pos_of_ne_zero hn0) hrz jj.toNat
            have h1' : RepL (fun x vs F => Rep sh w τ (elMd dp τ) x vs F) (List.replicate jj.toNat yy) (madeCells z.cells (jj.toNat * i.size)).toList [] := by rw [hisz, ← hzl]; exact h1
            have h2 := repL_growM (w' := w.alloc (.cells (madeCells z.cells (jj.toNat * i.size)) e)) (τ := τ) (l := List.replicate jj.toNat yy) h.sh_lt (by simp) hbel h1'
            have ht : (madeCells z.cells (jj.toNat * i.size)).toList.take (τ.n * List.length (List.replicate jj.toNat yy)) = (madeCells z.cells (jj.toNat * i.size)).toList :=
              List.take_of_length_le (by rw [Array.length_toList, size_madeCells, hlen, hisz, Nat.mul_comm]; exact Nat.le_refl _)
            rw [ht]
            exact h2 }
      have := h.newRow (c := .var j) hlt hbel hrow .nil hj
      rw [hlen] at this
      exact this
  cases hagg : τ.isAgg with
  | true =>
    simp only [hagg, if_true] at hs7
    have := Rd.pure_some hs7
    subst this
    obtain ⟨⟨dm, k1, k2⟩, ⟨dy, k3, k4⟩, _⟩ := he
    unfold ev at k1
    simp only [e3, evX] at k1
    obtain ⟨q1, _, _, _⟩ := ofCells_rep hat k1
    obtain ⟨q1', _, _, _⟩ := mkMd_rep (knownA_sh hzs) hzrep e3 k1
    unfold ev at k3
    simp only [evAs, evA, e1, k2] at k3
    refine hgo (.var nv) dm (nv + 1) k2 dy k3 k4 ?_
    cases dp with
    | false => exact q1
    | true =>
      simp only [Bool.not_true, Bool.false_or, zMd, hagg, if_true, beq_iff_eq] at hdp
      show Rep sh w dm.1 (Md.deep τ) dm.2 _ []
      rw [← hdp]
      exact q1'
  | false =>
    simp only [hagg, Bool.false_eq_true, if_false] at hs7
    match zs, e3, hs7 with
    | [zz], e3, hs7 =>
      have := Rd.pure_some hs7
      subst this
      obtain ⟨⟨dy, k3, k4⟩, _⟩ := he
      obtain ⟨dz, e4, rfl⟩ := evAs1 e3
      obtain ⟨v, us, hvs, hatom, hus⟩ := hat
      have hus : us = [] := hus
      subst hus
      unfold ev at k3
      simp only [evAs, e1, e4] at k3
      refine hgo zz dz nv e4 dy k3 k4 ?_
      rw [hvs]
      cases dp with
      | false => exact hatom.2
      | true =>
        have hkn := knownA_sh hzs
        match cs, hkn, hzrep, hdp with
        | [some (zx, zm)], hkn, hzrep, hdp =>
          simp only [knownA, Option.map_some, Option.some.injEq, List.cons.injEq, and_true] at hkn
          subst hkn
          simp only [Bool.not_true, Bool.false_or, zMd, hagg, Bool.false_eq_true, if_false, beq_iff_eq] at hdp
          obtain ⟨v1, v2, F1, F2, hvv, hFF, ⟨u, rfl, d', c1, c2, c3⟩, _, _⟩ := hzrep
          obtain rfl := some_eq e4 c1
          have hF := List.nil_eq_append_iff.1 hFF
          rw [hF.1] at c3
          rw [hvs] at hvv
          simp only [List.cons_append, List.nil_append, List.cons.injEq] at hvv
          rw [← hvv.1] at c3
          show Rep sh w dz.1 (Md.deep τ) dz.2 _ []
          rw [← hdp]
          exact c3
        | [], hkn, _, _ => simp [knownA] at hkn
        | none :: _, hkn, _, _ => simp [knownA] at hkn
        | some _ :: none :: _, hkn, _, _ => simp [knownA] at hkn
        | some _ :: some _ :: r, hkn, _, _ =>
          cases hr : knownA r <;> simp [knownA, hr] at hkn
    | [], _, hs7 => cases hs7
    | _ :: _ :: _, _, hs7 => cases hs7

theorem fitParts_pre {e : TypeId} {m : Md} {nv : Nat} : ∀ {ps : List (Nat × Operand)} {i : Nat} {k k' : Take} {xs : List A} {l : List (Bool × Nat)}, fitParts P nv e m i k ps σ = some ((xs, k'), l) → ∃ r, k'.em = k.em ++ r
  | [], i, k, k', xs, l, ho => by
    have := Rd.pure_some ho
    simp only [Prod.mk.injEq] at this
    obtain ⟨_, rfl⟩ := this
    exact ⟨[], by simp⟩
  | (j, x) :: ps, i, k, k', xs, l, ho => by
    unfold fitParts at ho
    obtain ⟨_, l1, l2, h1, ho1, _⟩ := Rd.bind_some ho
    obtain ⟨c, l3, l4, h2, ho2, _⟩ := Rd.bind_some ho1
    obtain ⟨⟨cs, k2⟩, l5, l6, h3, ho3, _⟩ := Rd.bind_some ho2
    have := Rd.pure_some ho3
    simp only [Prod.mk.injEq] at this
    obtain ⟨_, rfl⟩ := this
    obtain ⟨r, hr⟩ := fitParts_pre h3
    exact ⟨c.em ++ r, by rw [hr]; simp [Take.and]⟩

/-- A row's parts. -/
theorem fitParts_rep {e : TypeId} {m : Md} {nv : Nat} : ∀ {ps : List (Nat × Operand)} {i : Nat} {k k' : Take} {xs : List A} {l : List (Bool × Nat)} {sh : Nat → Prop} {F : Bool → Nat → List Nat}, InvG sh0 w0 G0 ρ (σ.take k) a w sh F β → k.mild → k.tame σ →
    fitParts P nv e m i k ps σ = some ((xs, k'), l) → EmOk Fn ρ nv k'.em →
    ∃ sh' F' X ds, InvG sh0 w0 G0 ρ (σ.take k') a w sh' F' β ∧ k'.mild ∧ k'.tame σ ∧ Took G0 w0 w sh F sh' F' X ∧ evAs ρ xs = some ds ∧ ds.length = ps.length ∧ ps.map (·.1) = (List.range' i ps.length) ∧
      ∀ τ l, mapAs τ ds = some l → RepL (fun x vs F => Rep sh' w τ m x vs F) l ((ps.map fun p => (a.eval p.2).cells.toList).flatten) X ∧ ∀ p ∈ ps, (a.eval p.2).cells.size = τ.n
  | [], i, k, k', xs, l, sh, F, h, hm, ht, ho, he => by
    have := Rd.pure_some ho
    simp only [Prod.mk.injEq] at this
    obtain ⟨rfl, rfl⟩ := this
    refine ⟨sh, F, [], [], h, hm, ht, .refl, rfl, rfl, rfl, fun τ l hl => ?_⟩
    simp only [mapAs, Option.some.injEq] at hl
    subst hl
    exact ⟨⟨rfl, rfl⟩, by simp⟩
  | (j, x) :: ps, i, k, k', xs, l, sh, F, h, hm, ht, ho, he => by
    unfold fitParts at ho
    obtain ⟨_, l1, l2, h1, ho1, _⟩ := Rd.bind_some ho
    have hij := Rd.guard_some h1
    obtain ⟨c, l3, l4, h2, ho2, _⟩ := Rd.bind_some ho1
    obtain ⟨⟨cs, k2⟩, l5, l6, h3, ho3, _⟩ := Rd.bind_some ho2
    have := Rd.pure_some ho3
    simp only [Prod.mk.injEq] at this
    obtain ⟨rfl, rfl⟩ := this
    obtain ⟨r, hr⟩ := fitParts_pre h3
    have he' := he
    rw [hr, show (k.and c).em = k.em ++ c.em from rfl, List.append_assoc] at he'
    obtain ⟨sh1, F1, X1, dd, hI1, e1, r1, m1, t1, tk1⟩ := fit_rep (σ := σ.take k) h h2 he'.split.2.split.1
    have hI1' : InvG sh0 w0 G0 ρ (σ.take (k.and c)) a w sh1 F1 β := by rw [take_and hm]; exact hI1
    obtain ⟨sh2, F2, X2, ds, hI2, m2, t2, tk2, e2, e3, e4, e5⟩ := fitParts_rep hI1' (hm.and m1) (ht.and t1) h3 he
    have hij : i = j := by simpa using hij
    subst hij
    refine ⟨sh2, F2, X1 ++ X2, dd :: ds, hI2, m2, t2, tk1.trans tk2, by simp [evAs, e1, e2], by simp [e3], by simp [e4, List.range'_succ], fun τ l hl => ?_⟩
    simp only [mapAs] at hl
    cases h4 : dd.as τ with
    | none => rw [h4] at hl; cases hl
    | some y =>
      cases h5 : mapAs τ ds with
      | none => rw [h4, h5] at hl; cases hl
      | some r =>
        rw [h4, h5] at hl
        simp only [Option.some.injEq] at hl
        subst hl
        obtain rfl := as_inv h4
        have hc := valRep_cells r1
        obtain ⟨q1, q2⟩ := e5 τ r h5
        refine ⟨⟨(a.eval x).cells.toList, _, X1, X2, by simp, rfl, hc.frame (fun b hb => ⟨tk2.mono b hb, rfl⟩) (fun _ _ => rfl), q1⟩, fun p hp => ?_⟩
        rcases List.mem_cons.1 hp with rfl | hp
        · have := hc.len
          simpa using this
        · exact q2 p hp

theorem lst_inv {e : Ty} {ds : List Dy} {dy : Dy} (h : evX (.lst e) ds = some dy) : ∃ l, mapAs e ds = some l ∧ dy = ⟨.sl e, l⟩ := by
  simp only [evX] at h
  split at h
  · rename_i l hl
    simp only [Option.some.injEq] at h
    exact ⟨l, hl, h.symm⟩
  · cases h

theorem mapAs_len {e : Ty} : ∀ {ds : List Dy} {l : List (D e)}, mapAs e ds = some l → l.length = ds.length
  | [], l, h => by simp [mapAs] at h; subst h; rfl
  | d :: ds, l, h => by
    simp only [mapAs] at h
    split at h
    · rename_i x r h1 h2
      simp only [Option.some.injEq] at h
      subst h
      simp [mapAs_len h2]
    · cases h

theorem flatten_get {s : Nat} (hs : 0 < s) : ∀ (ls : List (List Value)) (k : Nat), (∀ l ∈ ls, l.length = s) → ls.flatten[k]? = (ls[k / s]?).bind fun l => l[k % s]?
  | [], k, _ => by simp
  | l :: ls, k, h => by
    have hl := h l (by simp)
    have ih := flatten_get hs ls (k - s) (fun l' hl' => h l' (List.mem_cons_of_mem _ hl'))
    rw [List.flatten_cons]
    by_cases hk : k < s
    · rw [List.getElem?_append_left (by omega), Nat.div_eq_of_lt hk, Nat.mod_eq_of_lt hk]
      rfl
    · rw [List.getElem?_append_right (by omega), hl, ih]
      have h1 : k / s = (k - s) / s + 1 := by
        rw [Nat.div_eq_sub_div hs (by omega)]
      have h2 : k % s = (k - s) % s := Nat.mod_eq_sub_mod (by omega)
      rw [h1, h2, List.getElem?_cons_succ]

theorem zip_parts (a : Act) : ∀ (ps : List (Nat × Operand)) (i : Nat), ps.map (·.1) = List.range' i ps.length → ps.map (fun x => (x.1, a.eval x.2)) = ((ps.map fun p => a.eval p.2).zipIdx i).map fun x => (x.2, x.1)
  | [], _, _ => rfl
  | (j, x) :: ps, i, h => by
    simp only [List.map_cons, List.length_cons, List.range'_succ, List.cons.injEq] at h
    obtain ⟨rfl, h2⟩ := h
    simp only [List.map_cons, List.zipIdx_cons]
    rw [zip_parts a ps (j + 1) h2]

theorem sound_buildSlice {dp : Bool} {t : TypeId} {n : Nat} {ps : Array (Nat × Operand)} {nv : Nat} (h : InvG sh0 w0 G0 ρ σ a w sh F β) (hop : o.op = .buildSlice t n ps)
    (hd : o.dst = some d) (hlt : DstOk σ d) (hs : stBuildSlice P dp nv d t n ps.toList σ = some (st, l)) (he : EmOk Fn ρ nv st.em) : o.wp P a w (Inv sh0 w0 G0 ρ (σ.apply st)) Q := by
  unfold stBuildSlice at hs
  obtain ⟨e, l1, l2, h1, hs1, _⟩ := Rd.bind_some hs
  have hel := elemOf_some (Rd.ofO_some h1)
  obtain ⟨τ, l3, l4, h2, hs2, _⟩ := Rd.bind_some hs1
  obtain ⟨_, l7, l8, h4, hs4, _⟩ := Rd.bind_some hs2
  have hg := Rd.guard_some h4
  obtain ⟨⟨xs, k⟩, l9, l10, h5, hs5, _⟩ := Rd.bind_some hs4
  have := Rd.pure_some hs5
  subst this
  simp only [Bool.and_eq_true, beq_iff_eq, bne_iff_ne, decide_eq_true_eq] at hg
  obtain ⟨⟨⟨⟨hn, hn0⟩, hsm⟩, hzo⟩, hnp⟩ := hg
  obtain ⟨i, z, hi, hz, hzs, hisz, hib⟩ := zOk_some hzo hn
  obtain ⟨hea, heb⟩ := he.split
  obtain ⟨sh', F', X, ds, hI, hmi, hta, tk, e1, e2, e3, e4⟩ := fitParts_rep (σ := σ) (k := .nil) h (fun y hy => by simp [Take.nil] at hy) (tame_of fun y hy => by simp [Take.nil] at hy) h5 hea
  have happ := apply_take (σ := σ) hmi (k.em ++ [.e ⟨.lst τ, xs⟩]) [] [] [(d, .at (.var (nv + emN k.em)) (.own (elMd dp τ)))]
  rw [List.append_nil, List.append_nil] at happ
  rw [happ]
  obtain ⟨dy, k1, k2⟩ := heb.1
  unfold ev at k1
  rw [show (Ex.mk (.lst τ) xs).args = xs from rfl, e1] at k1
  obtain ⟨l, hl, rfl⟩ := lst_inv k1
  obtain ⟨hrep, hsize⟩ := e4 τ l hl
  have hll : List.length l = n := by rw [mapAs_len hl, e2, hnp]
  have hpos : 0 < τ.n := Nat.pos_of_ne_zero hn0
  -- the new cells
  have hcells : ∃ cells : Array Value, cells.toList = (ps.toList.map fun p => (a.eval p.2).cells.toList).flatten ∧
      (Instr.buildSlice t n (ps.map fun (i, x) => (i, a.eval x))).run P w = .ok (.slice (some ⟨w.heap.size, 0, none⟩) n n) (w.alloc (.cells cells e)) := by
    have hpl : (ps.map fun (i, x) => (i, a.eval x)).toList = ps.toList.map fun x => (x.1, a.eval x.2) := by simp
    by_cases h0 : n = 0
    · subst h0
      have hnil : ps.toList = [] := List.eq_nil_of_length_eq_zero hnp.symm
      have hps : ps = #[] := by apply Array.ext'; simpa using hnil
      subst hps
      refine ⟨#[], rfl, ?_⟩
      simp [Instr.buildSlice, run_underlying hel, sizeOf, typeInfo, hi, Instr.fill, newRow, Array.range_zero']
    · have hvs : ∀ v ∈ ps.toList.map (fun p => a.eval p.2), v.cells.size = τ.n := by
        intro v hv
        obtain ⟨p, hp, rfl⟩ := List.mem_map.1 hv
        exact hsize p hp
      have hvl : (ps.toList.map fun p => a.eval p.2).length = n := by simp only [List.length_map]; exact hnp.symm
      obtain ⟨r, hr, hrs, hrk⟩ := Go.Great.fill_dense hpos (ps.toList.map fun p => a.eval p.2) 0 ((Array.range (n * i.size)).map (z.cells[· % z.cells.size]!)) hvs (by rw [hvl, hisz]; simp)
      refine ⟨r, ?_, ?_⟩
      · apply List.ext_getElem?
        intro k
        rw [Array.getElem?_toList, hrk k, flatten_get hpos _ _ (fun l hl => by
          obtain ⟨p, hp, rfl⟩ := List.mem_map.1 hl
          have := hvs (a.eval p.2) (List.mem_map.2 ⟨p, hp, rfl⟩)
          simpa using this)]
        rw [hvl, Nat.zero_mul, Nat.zero_add]
        by_cases hk : k < n * τ.n
        · rw [if_pos ⟨Nat.zero_le _, hk⟩]
          simp only [Nat.sub_zero, List.getElem?_map]
          cases ps.toList[k / τ.n]? <;> simp
        · rw [if_neg (fun hh => hk hh.2)]
          rw [Array.getElem?_eq_none (by simp [hisz]; omega)]
          have hkd : n ≤ k / τ.n := (Nat.le_div_iff_mul_le hpos).2 (by omega)
          rw [List.getElem?_eq_none (by rw [List.length_map, ← hnp]; exact hkd)]
          rfl
      · refine run_buildSlice w t e n _ r i z hel hi hz (by rw [hisz]; omega) (by rw [hisz]; exact Nat.mul_ne_zero h0 hn0) ?_
        rw [hpl, zip_parts a ps.toList 0 (by rw [e3]), hisz]
        rw [hisz] at hr
        exact hr
  obtain ⟨cells, hc1, hc2⟩ := hcells
  have hbel : Below w.heap.size w (w.alloc (.cells cells e)) := (Below.refl _ _).alloc (Nat.le_refl _) _
  have hcl : cells.size = τ.n * n := by
    rw [← hc1] at hrep
    have := RepL.len (fun x vs F h => Rep.len h) hrep
    rw [← Array.length_toList, this, hll]
  have hrow : OwnRow sh' (w.alloc (.cells cells e)) τ (elMd dp τ) l w.heap.size n cells e (0, 0) X :=
    { heap := new_block w _
      room := by rw [hll]; exact Nat.le_refl _
      size := hcl
      frozen := .inl rfl
      rep := by
        have ht : cells.toList.take (τ.n * List.length l) = cells.toList := List.take_of_length_le (by rw [Array.length_toList, hcl, hll]; exact Nat.le_refl _)
        rw [ht]
        rw [← hc1] at hrep
        exact repL_growM hI.sh_lt (fun b hb => (tk.free.own b hb).2.1) hbel hrep }
  refine wp_value (v := .slice (some ⟨w.heap.size, 0, none⟩) n n) (w' := w.alloc (.cells cells e)) ?_ ?_
  · unfold execOp
    rw [hop]
    simp only [Sem.run_bind, hc2, Result.andThen_ok, Sem.run_pure]
  · rw [hd]
    have := hI.newRow (c := .var (nv + emN k.em)) (hlt.take hta) hbel hrow tk.free k2
    rw [hll] at this
    exact this

/-- Bytes, as a string. -/
theorem foldl_push_bytes : ∀ (ns : List Int) (r : ByteArray), ns.foldl (fun r n => r.push (UInt8.ofNat n.toNat)) r = ⟨r.data ++ (ns.map fun n => UInt8.ofNat n.toNat).toArray⟩
  | [], r => by simp
  | n :: ns, r => by
    rw [List.foldl_cons, foldl_push_bytes ns]
    simp [ByteArray.push]

theorem int_cells {k : IntKind} : ∀ {l : List Int} {vs : List Value} {F : List Nat}, RepL (fun x vs F => Rep sh w (.int k) .sh x vs F) l vs F → vs = l.map (Value.int k)
  | [], vs, F, h => h.1
  | n :: l, vs, F, h => by
    obtain ⟨v1, v2, F1, F2, rfl, rfl, h1, h2⟩ := h
    rw [h1.1, int_cells h2]; rfl

/-- A row of bytes, however owned. -/
theorem byte_row {l : List Int} {sh2 : Nat → Prop} {m : Md} {v : Value} {G : List Nat} (h : ValRep sh2 w ⟨.sl (.int .u8), l⟩ m v G) :
    ∃ ad cap, v = .slice ad l.length cap ∧ (ad = none → l = []) ∧ ∀ b, ad = some b → (loadCells b l.length).run P w = .ok (l.map (Value.int .u8)).toArray w := by
  have hld : ∀ (b : Addr) (news : List Value), news = l.map (Value.int .u8) → (∀ j u, news[j]? = some u → w.cell? (b.add j) = some u) → (loadCells b l.length).run P w = .ok (l.map (Value.int .u8)).toArray w := by
    intro b news hn hc
    have := run_loadCells_list (P := P) w b news hc
    rw [hn] at this
    simpa using this
  obtain ⟨vs, rfl, hr⟩ := h
  cases m with
  | sh =>
    obtain ⟨ad, cap, rfl, hc, _, hr⟩ := hr
    refine ⟨ad, cap, rfl, fun h0 => ?_, fun b hb => ?_⟩
    · rcases hr with h1 | ⟨b, off, c, ty, fz, h1, _⟩
      · exact h1
      · rw [h0] at h1; cases h1
    · rcases hr with h1 | ⟨b', off, c, ty, fz, h1, hb', hw, hr⟩
      · have h1 : l = [] := h1
        subst h1
        exact hld b [] rfl (fun j u hu => by simp at hu)
      · rw [h1] at hb
        simp only [Option.some.injEq] at hb
        subst hb
        refine hld _ _ (int_cells hr) (fun j u hu => ?_)
        rw [add_off]
        rw [List.getElem?_take] at hu
        split at hu
        · rw [List.getElem?_drop] at hu
          simp [World.cell?, hw]
          simpa using hu
        · cases hu
  | own m =>
    obtain ⟨ad, cap, rfl, hc, hr⟩ := hr
    refine ⟨ad, cap, rfl, fun h0 => ?_, fun b hb => ?_⟩
    · rcases hr with ⟨h1, _⟩ | ⟨b, c, ty, fz, F', h1, _⟩
      · exact h1
      · rw [h0] at h1; cases h1
    · rcases hr with ⟨h1, _⟩ | ⟨b', c, ty, fz, F', h1, h2, hw, hsz, hz, hr⟩
      · have h1 : l = [] := h1
        subst h1
        exact hld b [] rfl (fun j u hu => by simp at hu)
      · rw [h1] at hb
        simp only [Option.some.injEq] at hb
        subst hb
        have hr' : RepL (fun x vs F => Rep sh2 w (.int .u8) .sh x vs F) l (c.toList.take ((Ty.int .u8).n * l.length)) F' := RepL.imp hr (fun x vs G _ h => h)
        refine hld _ _ (int_cells hr') (fun j u hu => ?_)
        rw [add_off]
        rw [List.getElem?_take] at hu
        split at hu
        · simp [World.cell?, hw]
          simpa using hu
        · cases hu
  | pair _ _ => exact hr.elim

theorem text_inv {d dy : Dy} (h : evX .text [d] = some dy) : ∃ l : List Int, d = ⟨.sl (.int .u8), l⟩ ∧ dy = ⟨.str, ⟨(l.map fun n => UInt8.ofNat n.toNat).toArray⟩⟩ := by
  obtain ⟨τ, x⟩ := d
  cases τ <;> first | (simp [evX] at h; done) | skip
  rename_i e
  cases e <;> first | (simp [evX] at h; done) | skip
  rename_i k
  cases k <;> first | (simp [evX] at h; done) | skip
  simp only [evX, Option.some.injEq] at h
  exact ⟨x, rfl, h.symm⟩

theorem conv_inv {k : IntKind} {d dy : Dy} (h : evX (.conv k) [d] = some dy) : ∃ (k' : IntKind) (n : Int), d = ⟨.int k', n⟩ ∧ dy = ⟨.int k, k.wrap n⟩ := by
  obtain ⟨τ, x⟩ := d
  cases τ <;> first | (simp [evX] at h; done) | skip
  simp only [evX, Option.some.injEq] at h
  exact ⟨_, x, rfl, h.symm⟩

theorem bytes_inv {d dy : Dy} (h : evX .bytes [d] = some dy) : ∃ s : ByteArray, d = ⟨.str, s⟩ ∧ s.size < maxRow ∧ dy = ⟨.sl (.int .u8), bytesOf s⟩ := by
  obtain ⟨τ, x⟩ := d
  cases τ <;> first | (simp [evX] at h; done) | skip
  simp only [evX] at h
  split at h
  · rename_i hc
    simp only [Option.some.injEq] at h
    exact ⟨x, rfl, hc, h.symm⟩
  · cases h

theorem ints_rep {k : IntKind} : ∀ (l : List Int), RepL (fun x vs F => Rep sh w (.int k) .sh x vs F) l (l.map (Value.int k)) []
  | [] => ⟨rfl, rfl⟩
  | n :: l => ⟨[.int k n], _, [], [], rfl, rfl, ⟨rfl, rfl⟩, ints_rep l⟩

theorem sound_convert {s t : TypeId} {x : Operand} {nv : Nat} (h : InvG sh0 w0 G0 ρ σ a w sh F β) (hop : o.op = .convert s t x)
    (hd : o.dst = some d) (hlt : DstOk σ d) (hs : stConvert P nv d s t x σ = some (st, l)) (he : EmOk Fn ρ nv st.em) : o.wp P a w (Inv sh0 w0 G0 ρ (σ.apply st)) Q := by
  unfold stConvert at hs
  have hrun : ∀ v {w' : World}, (convert s t (a.eval x)).run P w = .ok v w' → (execOp a.eval o).run P w = .ok (.value v) w' := by
    intro v w' hv
    unfold execOp
    rw [hop]
    simp only [Sem.run_bind, hv, Result.andThen_ok, Sem.run_pure]
  generalize hu1 : P.underlying s = u1 at hs
  generalize hu2 : P.underlying t = u2 at hs
  split at hs
  · rename_i k1 k
    unfold stE1 at hs
    obtain ⟨c1, l1, l2, h1, hs1, _⟩ := Rd.bind_some hs
    have := Rd.pure_some hs1
    subst this
    obtain ⟨d1, sqd1, m1, X1, e1, r1, _⟩ := look_rep h h1
    refine sound_e h hd hlt he fun ds dy hds hev => ?_
    obtain ⟨d1', q1, rfl⟩ := evAs1 hds
    obtain rfl := some_eq e1 q1
    obtain ⟨k', n, rfl, rfl⟩ := conv_inv hev
    have hx : a.eval x = .int k' n := valA_rep r1 rfl
    refine ⟨.int k (k.wrap n), hrun _ ?_, valRep_atom ⟨rfl, rfl, rfl⟩⟩
    rw [hx]
    simp [convert, run_underlying hu1, run_underlying hu2, Conv.intToInt]
  · rename_i e
    obtain ⟨_, l1, l2, h1, hs1, _⟩ := Rd.bind_some hs
    have hg := Rd.guard_some h1
    have hu3 : P.underlying e = some (.int .u8) := by
      generalize P.underlying e = u3 at hg
      split at hg
      · rfl
      · cases hg
    unfold stE1 at hs1
    obtain ⟨c1, l3, l4, h2, hs2, _⟩ := Rd.bind_some hs1
    have := Rd.pure_some hs2
    subst this
    obtain ⟨d1, sqd1, m1, X1, e1, r1, _⟩ := look_rep h h2
    refine sound_e h hd hlt he fun ds dy hds hev => ?_
    obtain ⟨d1', q1, rfl⟩ := evAs1 hds
    obtain rfl := some_eq e1 q1
    obtain ⟨l, rfl, rfl⟩ := text_inv hev
    obtain ⟨ad, cap, hv, h0, hld⟩ := byte_row (P := P) r1
    refine ⟨.string ⟨(l.map fun n => UInt8.ofNat n.toNat).toArray⟩, hrun _ ?_, valRep_atom ⟨rfl, rfl, rfl⟩⟩
    rw [hv, run_convert_bytes_string w s t e ad l.length cap hu1 hu3 hu2]
    cases ad with
    | none =>
      have := h0 rfl
      subst this
      simp [Conv.bytesToString]
      rfl
    | some b =>
      rw [run_bytesToString w b l.length cap l (hld b rfl), foldl_push_bytes]
      simp
  · rename_i e
    obtain ⟨_, l1, l2, h1, hs1, _⟩ := Rd.bind_some hs
    have hg := Rd.guard_some h1
    have hu3 : P.underlying e = some (.int .u8) := by
      generalize P.underlying e = u3 at hg
      split at hg
      · rfl
      · cases hg
    obtain ⟨c1, l3, l4, h2, hs2, _⟩ := Rd.bind_some hs1
    have := Rd.pure_some hs2
    subst this
    obtain ⟨d1, sqd1, m1, X1, e1, r1, _⟩ := look_rep h h2
    obtain ⟨dy, k1, k2⟩ := he.1
    unfold ev at k1
    simp only [evAs, e1] at k1
    obtain ⟨s1, rfl, hmax, rfl⟩ := bytes_inv k1
    have hx : a.eval x = .string s1 := valA_rep r1 rfl
    have hr := run_bytes_of_string (P := P) w s t e s1 hu1 hu2 hu3
    have hge := grownCap_ge w s1.size 0 e
    have hbel : Below w.heap.size w (w.drew.alloc (.cells (bytesRow s1 (grownCap w s1.size 0 e)) e ((bytesRow s1 (grownCap w s1.size 0 e)).size, (bytesRow s1 (grownCap w s1.size 0 e)).size + 1))) := ((Below.refl _ _).drew).alloc (Nat.le_refl _) _
    have hbl : List.length (bytesOf s1) = s1.size := by simp [bytesOf]
    have hsz : (bytesRow s1 (grownCap w s1.size 0 e)).size = grownCap w s1.size 0 e := by
      have : s1.data.size = s1.size := rfl
      simp only [bytesRow, Array.size_append, Array.size_map, Array.size_replicate, this]
      omega
    have hrow : OwnRow sh (w.drew.alloc (.cells (bytesRow s1 (grownCap w s1.size 0 e)) e ((bytesRow s1 (grownCap w s1.size 0 e)).size, (bytesRow s1 (grownCap w s1.size 0 e)).size + 1))) (.int .u8) .sh (bytesOf s1) w.heap.size (grownCap w s1.size 0 e) _ e _ [] :=
      { heap := new_block w.drew _
        room := by rw [hbl]; exact hge
        size := by rw [hsz]; simp [Ty.n]
        frozen := .inr (Nat.le_refl _)
        rep := by
          have ht : (bytesRow s1 (grownCap w s1.size 0 e)).toList.take ((Ty.int .u8).n * List.length (bytesOf s1)) = (bytesOf s1).map (Value.int .u8) := by
            have hl : (s1.data.toList.map (fun b => Value.int .u8 b.toNat)).length = (Ty.int .u8).n * List.length (bytesOf s1) := by rw [hbl]; simp [Ty.n]
            unfold bytesRow
            rw [Array.toList_append, Array.toList_map, ← hl, List.take_left]
            simp [bytesOf]
          rw [ht]
          exact ints_rep (bytesOf s1) }
    refine wp_value (hrun _ (by rw [hx]; exact hr)) ?_
    rw [hd]
    have := h.newRow (c := .var nv) hlt hbel hrow .nil k2
    rw [hbl] at this
    exact this
  · rename_i e e'
    obtain ⟨_, l1, l2, h1, hs1, _⟩ := Rd.bind_some hs
    have hg := Rd.guard_some h1
    obtain ⟨k, l3, l4, h2, hs2, _⟩ := Rd.bind_some hs1
    obtain ⟨_, l5, l6, h3, hs3, _⟩ := Rd.bind_some hs2
    have hg3 := Rd.guard_some h3
    have := Rd.pure_some hs3
    subst this
    have hkm : k.m = .own .sh := by
      generalize k.m = km at hg3
      split at hg3
      · rfl
      · cases hg3
    simp only [Bool.and_eq_true, beq_iff_eq] at hg
    obtain ⟨rfl, hg⟩ := hg
    have hu3 : P.underlying e' = some (.int .u8) := by
      generalize P.underlying e = u3 at hg
      generalize P.underlying e' = u4 at hg
      split at hg
      · rfl
      · cases hg
    obtain ⟨hea, heb⟩ := he.split
    obtain ⟨F', X, d1, hI, e1, r1, tk⟩ := take_rep h h2 hea
    have hmi := takeV_mild h2
    have happ := apply_take (σ := σ) hmi (k.em ++ [.e ⟨.idx 1, [k.x, .int .i64 0]⟩]) [] [] [(d, .at k.x k.m)]
    rw [List.append_nil, List.append_nil] at happ
    rw [happ]
    have hdt := hlt.take (takeV_tame h2)
    obtain ⟨dy, k1, k2⟩ := heb.1
    unfold ev at k1
    simp only [evAs, e1, evA] at k1
    obtain ⟨τ1, l1, q1, q2, y1, rfl, _, _, _, hy1, _⟩ := idx_inv k1
    rw [hkm] at r1 ⊢
    have hne : l1 ≠ [] := by rintro rfl; simp at hy1
    rcases own_row r1 with ⟨ad, hv1, hl0, _⟩ | ⟨g, cap, ar, ty, fz, K, hv1, hXK, ho⟩
    · exact absurd hl0 hne
    have hsh : w.shape? g = some (ty, ar.size) := by simp [World.shape?, ho.heap]
    have hr : (convert s s (.slice (some ⟨g, 0, none⟩) (List.length l1) cap)).run P w = .ok (.slice (some ⟨g, 0, none⟩) (List.length l1) cap) (w.freeze ⟨g, ar.size, none⟩ 1) := by
      simp [convert, run_underlying hu2, run_underlying hu3, markStringish, hsh]
    obtain ⟨lo, hi⟩ := fz
    have hnew : (w.freeze ⟨g, ar.size, none⟩ 1).heap[g]? = some (.cells ar ty (if lo == hi then (ar.size, ar.size + 1) else (min lo ar.size, max hi (ar.size + 1)))) := by
      simp [World.freeze, Array.getElem?_modify, ho.heap]
    have hold : ∀ k, k ≠ g → (w.freeze ⟨g, ar.size, none⟩ 1).heap[k]? = w.heap[k]? := by
      intro k hk
      simp [World.freeze, Array.getElem?_modify, Ne.symm hk]
    have hszw : (w.freeze ⟨g, ar.size, none⟩ 1).heap.size = w.heap.size := by simp [World.freeze]
    have hgX : g ∈ X := by rw [hXK]; simp
    have hown := tk.free.own g hgX
    have hfree := tk.free.out g hgX
    have hturn := hI.turn (w' := w.freeze ⟨g, ar.size, none⟩ 1) (L := [g]) (sh' := sh) ⟨rfl, rfl, rfl, by rw [hszw]; exact Nat.le_refl _, fun k _ hk => hold k (by simpa using hk)⟩
      (fun b hb => by
        obtain rfl : b = g := by simpa using hb
        exact ⟨hfree, hown.2.2, hown.1⟩)
      (fun _ h => h) (fun b hb => ⟨by rw [hszw]; exact hI.sh_lt b hb, .inl hb⟩)
    have hXn := tk.free.nd
    rw [hXK] at hXn
    have hgK := (List.nodup_cons.1 hXn).1
    have hrow : OwnRow sh (w.freeze ⟨g, ar.size, none⟩ 1) τ1 .sh l1 g cap ar ty _ K :=
      { heap := hnew
        room := ho.room
        size := ho.size
        frozen := by
          rcases ho.frozen with h0 | h0
          · simp only [Prod.mk.injEq] at h0
            obtain ⟨rfl, rfl⟩ := h0
            exact .inr (Nat.le_refl _)
          · right
            dsimp only at h0
            split
            · exact Nat.le_refl _
            · simp only; omega
        rep := RepL.imp ho.rep (fun x vs G hG hh => Rep.frame (fun b hb => ⟨hb, hold b (fun e => hown.2.2 (e ▸ hb))⟩) hh (fun b hb => hold b (fun e => hgK (e ▸ hG b hb)))) }
    refine wp_value (hrun _ (by rw [hv1]; exact hr)) ?_
    rw [hd]
    have hput := hturn.putD (d := d) (s := .at k.x (.own .sh)) (v := .slice (some ⟨g, 0, none⟩) (List.length l1) cap) (X := g :: K) hdt ⟨_, e1, hrow.val⟩ (by simp [roots]) trivial hXn
      (fun b hb => by
        have := tk.free.own b (by rw [hXK]; exact hb)
        exact ⟨this.1, by rw [hszw]; exact this.2.1, this.2.2⟩)
      (fun b hb k j _ => tk.free.out b (by rw [hXK]; exact hb) k j)
    exact ⟨_, _, _, hput⟩
  · cases hs

theorem fold_splice (off : Nat) (l : List Value) (cs : Array Value) (h : off + l.length ≤ cs.size) :
    (l.zipIdx.foldl (fun cs (x : Value × Nat) => cs.setIfInBounds (off + x.2) x.1) cs).toList = cs.toList.take off ++ l ++ cs.toList.drop (off + l.length) := by
  obtain ⟨h1, h2⟩ := Go.Great.foldl_set off l 0 cs
  apply List.ext_getElem?
  intro k
  rw [Array.getElem?_toList, h2 k]
  simp only [Nat.add_zero]
  have hto : (cs.toList.take off).length = off := by simp; omega
  by_cases hk : off ≤ k ∧ k < off + l.length ∧ k < cs.size
  · rw [if_pos hk, List.append_assoc, List.getElem?_append_right (by omega), hto, List.getElem?_append_left (by omega)]
  · rw [if_neg hk]
    rcases Nat.lt_or_ge k off with h3 | h3
    · rw [List.append_assoc, List.getElem?_append_left (by omega), List.getElem?_take, if_pos h3, Array.getElem?_toList]
    · rw [List.append_assoc, List.getElem?_append_right (by omega), hto]
      rcases Nat.lt_or_ge k (off + l.length) with h4 | h4
      · have : cs.size ≤ k := by omega
        omega
      · rw [List.getElem?_append_right (by omega), List.getElem?_drop, Array.getElem?_toList]
        congr 1
        omega

theorem fieldOf_some {s : TypeId} {i off : Nat} {ft : TypeId} (h : fieldOf P s i = some (off, ft)) : ∃ (fs : Array Field) (f : Field), P.underlying s = some (.struct fs) ∧ fs[i]? = some f ∧ f.offset = off ∧ f.type = ft := by
  unfold fieldOf at h
  generalize hu : P.underlying s = u at h
  split at h
  · rename_i fs
    obtain ⟨f, hf, he⟩ := Option.map_eq_some_iff.1 h
    obtain ⟨rfl, rfl⟩ := Prod.mk.inj he
    exact ⟨fs, f, rfl, hf, rfl, rfl⟩
  · cases h

theorem mapM_get {α β : Type} {f : α → Option β} : ∀ {l : List α} {r : List β} {i : Nat} {x : α}, l.mapM f = some r → l[i]? = some x → ∃ y, f x = some y ∧ r[i]? = some y
  | [], r, i, x, _, h => by simp at h
  | a :: l, r, i, x, hm, h => by
    simp only [List.mapM_cons, Option.bind_eq_bind, Option.pure_def] at hm
    cases ha : f a with
    | none => simp [ha] at hm
    | some b =>
      cases hr : l.mapM f with
      | none => simp [ha, hr] at hm
      | some bs =>
        simp [ha, hr] at hm
        subst hm
        cases i with
        | zero => simp at h; subst h; exact ⟨b, ha, rfl⟩
        | succ i => simp at h; obtain ⟨y, h1, h2⟩ := mapM_get hr h; exact ⟨y, h1, by simpa using h2⟩

/-- The slices' bounds. -/
theorem fitBuild_pre {s : TypeId} {nv : Nat} : ∀ {ps : List (Nat × Operand)} {k k' : Take} {cs cs' : List Cell} {l : List (Bool × Nat)}, buildParts P s nv k cs ps σ = some ((cs', k'), l) → ∃ r, k'.em = k.em ++ r
  | [], k, k', cs, cs', l, ho => by
    have := Rd.pure_some ho
    simp only [Prod.mk.injEq] at this
    obtain ⟨_, rfl⟩ := this
    exact ⟨[], by simp⟩
  | (i, x) :: ps, k, k', cs, cs', l, ho => by
    unfold buildParts at ho
    obtain ⟨⟨off, ft⟩, l1, l2, h1, ho1, _⟩ := Rd.bind_some ho
    dsimp only at ho1
    obtain ⟨c, l3, l4, h2, ho2, _⟩ := Rd.bind_some ho1
    obtain ⟨_, l5, l6, h3, ho3, _⟩ := Rd.bind_some ho2
    cases hagg : isAggB P ft with
    | true =>
      simp only [hagg, if_true] at ho3
      obtain ⟨r, hr⟩ := fitBuild_pre ho3
      exact ⟨c.em ++ ([_] ++ r), by rw [hr]; simp [Take.and, Take.more]; rfl⟩
    | false =>
      simp only [hagg, Bool.false_eq_true, if_false] at ho3
      obtain ⟨_, l9, l10, h5, ho5, _⟩ := Rd.bind_some ho3
      obtain ⟨r, hr⟩ := fitBuild_pre ho5
      exact ⟨c.em ++ ([_] ++ r), by rw [hr]; simp [Take.and, Take.more]; rfl⟩

theorem Take.mild.more {k : Take} {e : Em} (h : k.mild) : (k.more e).mild := h
theorem Take.tame.more {k : Take} {e : Em} (h : k.tame σ) : (k.more e).tame σ := h
theorem take_more {k : Take} {e : Em} : σ.take (k.more e) = σ.take k := rfl

/-- A struct's parts go in. -/
theorem buildParts_rep {s : TypeId} {fs : Array Field} {places : List (Nat × Nat)} {nv : Nat} (hu : P.underlying s = some (.struct fs)) (hp : fs.toList.mapM (fun f => (P.info? f.type).map fun i => (f.offset, i.size)) = some places) :
    ∀ {ps : List (Nat × Operand)} {k k' : Take} {cs cs' : List Cell} {cur : Array Value} {l : List (Bool × Nat)} {F : Bool → Nat → List Nat} {Y : List Nat}, InvG sh0 w0 G0 ρ (σ.take k) a w sh F β → k.mild → k.tame σ → Free G0 w0 w sh F Y →
    buildParts P s nv k cs ps σ = some ((cs', k'), l) → EmOk Fn ρ nv k'.em → RepL (one (CellRep sh w ρ)) cs cur.toList Y →
    ∃ r F' Y', Instr.fill (places.toArray[·]?) cur (ps.map fun x => (x.1, a.eval x.2)) = some r ∧ InvG sh0 w0 G0 ρ (σ.take k') a w sh F' β ∧ k'.mild ∧ k'.tame σ ∧ Free G0 w0 w sh F' Y' ∧ RepL (one (CellRep sh w ρ)) cs' r.toList Y'
  | [], k, k', cs, cs', cur, l, F, Y, h, hm, ht, hY, ho, he, hr => by
    have := Rd.pure_some ho
    simp only [Prod.mk.injEq] at this
    obtain ⟨rfl, rfl⟩ := this
    exact ⟨cur, F, Y, rfl, h, hm, ht, hY, hr⟩
  | (i, x) :: ps, k, k', cs, cs', cur, l, F, Y, h, hm, ht, hY, ho, he, hr => by
    unfold buildParts at ho
    obtain ⟨⟨off, ft⟩, l1, l2, h1, ho1, _⟩ := Rd.bind_some ho
    have hf := Rd.ofO_some h1
    dsimp only at ho1
    obtain ⟨c, l3, l4, h2, ho2, _⟩ := Rd.bind_some ho1
    obtain ⟨_, l5, l6, h3, ho3, _⟩ := Rd.bind_some ho2
    have hg := Rd.guard_some h3
    simp only [Bool.and_eq_true, decide_eq_true_eq, bne_iff_ne] at hg
    obtain ⟨hg1, hg2⟩ := hg
    obtain ⟨fs', f, hu', hfi, hoff, hft⟩ := fieldOf_some hf
    rw [hu] at hu'
    simp only [Option.some.injEq, TypeDesc.struct.injEq] at hu'
    subst hu'
    obtain ⟨pl, hpl, hpi⟩ := mapM_get hp (by simpa using hfi)
    have hpi : places.toArray[i]? = some (off, P.cellsOf ft) := by
      rw [List.getElem?_toArray, hpi]
      cases hi : P.info? f.type with
      | none => rw [hi] at hpl; cases hpl
      | some it =>
        rw [hi] at hpl
        simp only [Option.map_some, Option.some.injEq] at hpl
        rw [← hpl, hoff, ← hft]
        simp [Program.cellsOf, hi]
    have hcl : cur.toList.length = cs.length := RepL.one_len hr
    rw [Array.length_toList] at hcl
    -- one part goes in
    have hstep : ∀ (e : Em) (names : List Cell) (l' : List (Bool × Nat)), buildParts P s nv ((k.and c).more e) (cs.take off ++ names ++ cs.drop (off + P.cellsOf ft)) ps σ = some ((cs', k'), l') →
        (∀ {F1 : Bool → Nat → List Nat} {X1 : List Nat} {d1 : Dy}, evA ρ c.x = some d1 → ValRep sh w d1 c.m (a.eval x) X1 → EmOk Fn ρ (nv + emN (k.and c).em) [e] → RepL (one (CellRep sh w ρ)) names (a.eval x).cells.toList X1 ∧ names.length = P.cellsOf ft) →
        ∃ r F' Y', Instr.fill (places.toArray[·]?) cur (((i, x) :: ps).map fun x => (x.1, a.eval x.2)) = some r ∧ InvG sh0 w0 G0 ρ (σ.take k') a w sh F' β ∧ k'.mild ∧ k'.tame σ ∧ Free G0 w0 w sh F' Y' ∧ RepL (one (CellRep sh w ρ)) cs' r.toList Y' := by
      intro e names l' hb hnames
      obtain ⟨r0, hr0⟩ := fitBuild_pre hb
      have he' := he
      rw [hr0, show ((k.and c).more e).em = k.em ++ (c.em ++ [e]) by simp [Take.more, Take.and], List.append_assoc, List.append_assoc] at he'
      have hk1 := he'.split.2
      obtain ⟨F1, X1, d1, hI1, e1, r1, tk1⟩ := take_rep (σ := σ.take k) h h2 hk1.split.1
      have hI1' : InvG sh0 w0 G0 ρ (σ.take (k.and c)) a w sh F1 β := by rw [take_and hm]; exact hI1
      have hem : EmOk Fn ρ (nv + emN (k.and c).em) [e] := by
        have := hk1.split.2
        rw [Nat.add_assoc, ← emN_app] at this
        exact (EmOk.split (e1 := [e]) (e2 := r0) (by simpa [Take.and] using this)).1
      obtain ⟨hnr, hnl⟩ := hnames (F1 := F1) e1 r1 hem
      have hvl := RepL.one_len hnr
      rw [hnl] at hvl
      have hvs : (a.eval x).cells.size = P.cellsOf ft := by rw [← Array.length_toList]; exact hvl
      have hsp := fold_splice off (a.eval x).cells.toList cur (by rw [hvl]; omega)
      obtain ⟨A, B, C', rfl, hspl⟩ := RepL.splice (f := off) hr hnr
      obtain ⟨hYf, hYX⟩ := tk1.keep hY
      have hnext : RepL (one (CellRep sh w ρ)) (cs.take off ++ names ++ cs.drop (off + P.cellsOf ft)) ((a.eval x).cells.toList.zipIdx.foldl (fun cs (x : Value × Nat) => cs.setIfInBounds (off + x.2) x.1) cur).toList (A ++ X1 ++ C') := by
        rw [hsp, hvl, ← hnl]
        rw [hnl] at hspl ⊢
        exact hspl
      have hYn : Free G0 w0 w sh F1 (A ++ X1 ++ C') := by
        have h4 := List.nodup_append.1 hYf.nd
        have h5 := List.nodup_append.1 h4.2.1
        refine ⟨?_, fun b hb => ?_, fun b hb => ?_⟩
        · rw [List.append_assoc]
          refine List.nodup_append.2 ⟨h4.1, List.nodup_append.2 ⟨tk1.free.nd, h5.2.1, fun x hx y hy e => ?_⟩, fun x hx y hy e => ?_⟩
          · subst e; exact hYX x (by simp [hy]) hx
          · subst e
            rcases List.mem_append.1 hy with hy | hy
            · exact hYX x (by simp [hx]) hy
            · exact h4.2.2 x hx x (List.mem_append_right _ hy) rfl
        · simp only [List.mem_append] at hb
          rcases hb with (hb | hb) | hb
          · exact hYf.own b (by simp [hb])
          · exact tk1.free.own b hb
          · exact hYf.own b (by simp [hb])
        · simp only [List.mem_append] at hb
          rcases hb with (hb | hb) | hb
          · exact hYf.out b (by simp [hb])
          · exact tk1.free.out b hb
          · exact hYf.out b (by simp [hb])
      obtain ⟨r, F', Y', q1, q2⟩ := buildParts_rep (nv := nv) hu hp (k := (k.and c).more e) hI1' (hm.and (takeV_mild (σ := σ.take k) h2)).more (ht.and (takeV_tame (σ := σ.take k) h2)).more hYn hb he hnext
      refine ⟨r, F', Y', ?_, q2⟩
      simp only [List.map_cons]
      unfold Instr.fill
      simp only [hpi, hvs]
      rw [if_neg (by simp; omega)]
      have : Array.foldl (fun cs (x : Value × Nat) => cs.setIfInBounds (off + x.2) x.1) cur (a.eval x).cells.zipIdx = (a.eval x).cells.toList.zipIdx.foldl (fun cs (x : Value × Nat) => cs.setIfInBounds (off + x.2) x.1) cur := by
        rw [← Array.foldl_toList]; simp
      rw [← q1, ← this]
    cases hagg : isAggB P ft with
    | true =>
      simp only [hagg, if_true] at ho3
      refine hstep _ _ _ ho3 fun {F1 X1 d1} e1 r1 hem => ?_
      obtain ⟨⟨dy, k1, k2⟩, _⟩ := hem
      unfold ev at k1
      simp only [evAs, e1] at k1
      obtain ⟨vs, hvs, hl, hrep, _⟩ := all_rep k1 r1 k2
      exact ⟨by rw [hvs]; exact hrep, cellsM_length⟩
    | false =>
      simp only [hagg, Bool.false_eq_true, if_false] at ho3
      obtain ⟨_, l9, l10, h5, ho5, _⟩ := Rd.bind_some ho3
      have hn1 := Rd.guard_some h5
      have hn1 : P.cellsOf ft = 1 := by simpa using hn1
      refine hstep _ _ _ ho5 fun {F1 X1 d1} e1 r1 hem => ?_
      obtain ⟨⟨dy, k1, k2⟩, _⟩ := hem
      unfold ev at k1
      simp only [evAs, e1, evX] at k1
      split at k1
      · cases k1
      · rename_i hna
        simp only [Option.some.injEq] at k1
        subst k1
        have hna : d1.1.isAgg = false := by simpa using hna
        have hr1 := valRep_cells r1
        obtain ⟨u, hu1⟩ := hr1.single hna
        rw [hu1] at hr1 ⊢
        exact ⟨⟨[u], [], X1, [], rfl, by simp, ⟨u, rfl, d1, k2, hna, hr1⟩, rfl, rfl⟩, by simp [hn1]⟩

theorem sound_build {t : TypeId} {ps : Array (Nat × Operand)} {nv : Nat} (h : InvG sh0 w0 G0 ρ σ a w sh F β) (hop : o.op = .build t ps)
    (hd : o.dst = some d) (hlt : DstOk σ d) (hs : stBuild P nv d t ps.toList σ = some (st, l)) (he : EmOk Fn ρ nv st.em) : o.wp P a w (Inv sh0 w0 G0 ρ (σ.apply st)) Q := by
  unfold stBuild at hs
  obtain ⟨τ, l1, l2, h1, hs1, _⟩ := Rd.bind_some hs
  obtain ⟨cs, l3, l4, h2, hs2, _⟩ := Rd.bind_some hs1
  obtain ⟨_, l7, l8, h4, hs4, _⟩ := Rd.bind_some hs2
  have hz := Rd.guard_some h4
  obtain ⟨places, l15, l16, h7, hs7, _⟩ := Rd.bind_some hs4
  have hpl := Rd.ofO_some h7
  obtain ⟨⟨cs', k⟩, l9, l10, h5, hs5, _⟩ := Rd.bind_some hs7
  obtain ⟨xs, l11, l12, h8, hs8, _⟩ := Rd.bind_some hs5
  have hxs := Rd.ofO_some h8
  have := Rd.pure_some hs8
  subst this
  unfold zeroOk at hz
  cases hi : P.info? t with
  | none => rw [hi] at hz; cases hz
  | some i => ?_
  rw [hi] at hz
  dsimp only at hz
  cases hzv : i.zero with
  | none => rw [hzv] at hz; cases hz
  | some z => ?_
  rw [hzv] at hz
  simp only [Bool.and_eq_true, beq_iff_eq] at hz
  have hrep : RepL (one (CellRep sh w ρ)) cs z.cells.toList [] := zip_all_rep (by simpa using hz.2) hz.1
  obtain ⟨hea, heb⟩ := he.split
  unfold placesOf at hpl
  generalize hu : P.underlying t = u at hpl
  split at hpl
  · rename_i fs
    obtain ⟨r, F', Y', hr, hI, hmi, hta, hY, hcells⟩ := buildParts_rep (σ := σ) hu hpl (k := .nil) h (fun y hy => by simp [Take.nil] at hy) (tame_of fun y hy => by simp [Take.nil] at hy) .nil h5 hea hrep
    have happ := apply_take (σ := σ) hmi (k.em ++ [.e ⟨.mk, xs⟩]) [] [] [(d, .at (.var (nv + emN k.em)) (mkMd cs'))]
    rw [List.append_nil, List.append_nil] at happ
    rw [happ]
    obtain ⟨ds, dy, m1, m2, m3⟩ := ev_mk heb
    obtain ⟨p1, p2, _, _⟩ := mkMd_rep hxs hcells m1 m2
    have hb : P.built t (ps.map fun (i, x) => (i, a.eval x)).toList = some r := by
      unfold Program.built
      simp only [hi, hu, hzv, hpl]
      have : (ps.map fun (i, x) => (i, a.eval x)).toList = ps.toList.map fun x => (x.1, a.eval x.2) := by simp
      rw [this]
      exact hr
    refine wp_value (v := .agg r) (w' := w) ?_ ?_
    · unfold execOp
      rw [hop]
      simp only [Sem.run_bind, run_build w t _ r hb, Result.andThen_ok, Sem.run_pure]
    · rw [hd]
      exact hI.putTaken (hlt.take hta) (y := .var (nv + emN k.em)) m3 ⟨r.toList, by rw [p2]; simp [valOf], p1⟩ hY
  · cases hpl

theorem clr_inv {d1 d2 dy : Dy} (h : evX .clr [d1, d2] = some dy) : ∃ (e : Ty) (l : D (.sl e)) (y : D e), d1 = ⟨e, y⟩ ∧ d2 = ⟨.sl e, l⟩ ∧ List.length l ≠ 0 ∧ dy = ⟨.sl e, List.replicate (List.length l) y⟩ := by
  obtain ⟨τ, l⟩ := d2
  cases τ with
  | sl e =>
    simp only [evX] at h
    cases h2 : d1.as e with
    | none => rw [h2] at h; cases h
    | some y =>
      rw [h2] at h
      dsimp only at h
      split at h
      · cases h
      · rename_i hn
        simp only [Option.some.injEq] at h
        exact ⟨e, l, y, as_inv h2, rfl, hn, h.symm⟩
  | _ => simp [evX] at h

theorem clr3_inv {d1 d2 d3 dy : Dy} (h : evX .clr [d1, d2, d3] = some dy) : ∃ (e : Ty) (l : D (.sl e)) (y : D e) (k : IntKind) (n : Int), d1 = ⟨e, y⟩ ∧ d2 = ⟨.sl e, l⟩ ∧ d3 = ⟨.int k, n⟩ ∧ 0 ≤ n ∧ n < List.length l ∧ dy = ⟨.sl e, List.take n.toNat l ++ List.replicate (List.length l - n.toNat) y⟩ := by
  obtain ⟨τ, l⟩ := d2
  obtain ⟨τ3, n⟩ := d3
  cases τ with
  | sl e =>
    cases τ3 with
    | int k =>
      simp only [evX] at h
      cases h2 : d1.as e with
      | none => rw [h2] at h; cases h
      | some y =>
        rw [h2] at h
        dsimp only at h
        split at h
        · rename_i hn
          simp only [Option.some.injEq] at h
          exact ⟨e, l, y, k, n, as_inv h2, rfl, rfl, hn.1, hn.2, h.symm⟩
        · cases h
    | _ => simp [evX] at h
  | _ => simp [evX] at h

theorem same_rep {τ : Ty} {m : Md} {y : D τ} {v : Value} (h : Rep sh w τ m y [v] []) : ∀ k, RepL (fun x vs F => Rep sh w τ m x vs F) (List.replicate k y) (List.replicate k v) []
  | 0 => ⟨rfl, rfl⟩
  | k + 1 => by
    rw [List.replicate_succ, List.replicate_succ]
    exact ⟨[v], _, [], [], rfl, rfl, h, same_rep h k⟩

theorem zeroCells_one (v : Value) (n : Nat) : (Builtin.zeroCells #[v] n).toList = List.replicate n v := by
  simp [Builtin.zeroCells]
  apply List.ext_getElem
  · simp
  · intro i h1 h2
    simp [Nat.mod_one]

/-- A ROW IS CLEARED. -/
theorem sound_clear {t : TypeId} {x : Operand} {nv : Nat} {c : Call} (h : InvG sh0 w0 G0 ρ σ a w sh F β) (hop : o.op = .call c) (hc : c.callee = .builtin .clear) (hx : c.args = ⟨[x]⟩) (ht : c.argTypes = ⟨[t]⟩)
    (hd : o.dst = none) (hs : stClear P nv t x σ = some (st, l)) (he : EmOk Fn ρ nv st.em) : o.wp P a w (Inv sh0 w0 G0 ρ (σ.apply st)) Q := by
  unfold stClear at hs
  obtain ⟨e, l1, l2, h1, hs1, _⟩ := Rd.bind_some hs
  have hel := elemOf_some (Rd.ofO_some h1)
  obtain ⟨τ, l3, l4, h2, hs2, _⟩ := Rd.bind_some hs1
  obtain ⟨cs, l5, l6, h3, hs3, _⟩ := Rd.bind_some hs2
  obtain ⟨z, l7, l8, h4, hs4, _⟩ := Rd.bind_some hs3
  have hz4 := Rd.ofO_some h4
  obtain ⟨_, l9, l10, h5, hs5, _⟩ := Rd.bind_some hs4
  have hg := Rd.guard_some h5
  simp only [Bool.and_eq_true] at hg
  obtain ⟨s, l11, l12, h6, hs6, _⟩ := Rd.bind_some hs5
  have hcs : cs = [some (z, .sh)] := by
    split at hz4
    · simp only [Option.some.injEq] at hz4
      subst hz4; rfl
    · cases hz4
  subst hcs
  obtain ⟨i, zv, ds, hi, hzv, e3, hat, _⟩ := zero_atoms (ρ := ρ) (sh := sh) (w := w) (zs := [z]) hg.1 (by simp [shCells])
  obtain ⟨dz, e4, rfl⟩ := evAs1 e3
  obtain ⟨v0, us, hvs, hatom, hus⟩ := hat
  have hus : us = [] := hus
  subst hus
  have hzc : zv.cells = #[v0] := by
    apply Array.ext'
    simpa using hvs
  cases s with
  | rf b r c' ln =>
    obtain ⟨⟨y, mm⟩, l13, l14, h7, hs7, _⟩ := Rd.bind_some hs6
    obtain ⟨_, l15, l16, h8, hs8, _⟩ := Rd.bind_some hs7
    have hmm := Rd.guard_some h8
    have hmm : mm = .sh := by cases mm <;> simp [Md.isSh] at hmm; rfl
    subst hmm
    have hroot := rootA_some h7
    obtain ⟨hhdr, hro⟩ := opnd_rf h h6
    obtain ⟨d1, G, q1, r1, _⟩ := root_rep h hroot hhdr
    have hgo : EmOk Fn ρ nv [.e ⟨.clr, [z, y]⟩] → ∃ w', (execOp a.eval o).run P w = .ok (.value (.tuple #[])) w' ∧ ElDone sh0 w0 G0 ρ σ a w' (.var nv) .sh r c' b := by
      intro hem
      obtain ⟨dy, k1, k2⟩ := hem.1
      unfold ev at k1
      simp only [evAs, q1, e4] at k1
      obtain ⟨e', xs, yv, rfl, rfl, hn0, rfl⟩ := clr_inv k1
      have hone : e'.n = 1 := by have := hatom.2.len; simpa using this.symm
      have hpos : 0 < List.length xs := by omega
      have hcell1 : v0.oneCell' = true := Rep.one' hatom.2 v0 (by simp)
      -- the row
      have hrow : ∀ {X : List Nat}, ValRep sh w ⟨.sl e', xs⟩ (.own .sh) (a.eval x) X → ∃ g cap ar ty fz K, a.eval x = .slice (some ⟨g, 0, none⟩) (List.length xs) cap ∧ X = g :: K ∧ OwnRow sh w e' .sh xs g cap ar ty fz K ∧
          ∃ ar1, (execOp a.eval o).run P w = .ok (.value (.tuple #[])) (w.setRow g ar1) ∧ ar1.size = ar.size ∧ RepL (fun x vs F => Rep sh w e' .sh x vs F) (List.replicate (List.length xs) yv) (ar1.toList.take (e'.n * List.length xs)) [] := by
        intro X hX
        rcases own_row hX with ⟨_, _, hl0, _⟩ | ⟨g, cap, ar, ty, fz, K, hvv, hG, ho⟩
        · rw [hl0] at hn0; exact absurd rfl hn0
        refine ⟨g, cap, ar, ty, fz, K, hvv, hG, ho, (ar.toList.take 0 ++ List.replicate (List.length xs) v0 ++ ar.toList.drop (List.length xs)).toArray, ?_, ?_, ?_⟩
        · have hsz : List.length xs ≤ ar.size := by
            rw [ho.size, hone, Nat.one_mul]; exact ho.room
          have hst := run_storeCells_fz P g 0 ty fz (List.replicate (List.length xs) v0) 0 ar w ho.heap ho.frozen.all (by simpa using hsz) (fun u hu => by rw [List.eq_of_mem_replicate hu]; exact hcell1)
          simp only [Nat.add_zero, Nat.zero_add, List.length_replicate] at hst
          have hb : (Builtin.clear_ #[t] o.type #[a.eval x]).run P w = .ok (.tuple #[]) (w.setRow g (ar.toList.take 0 ++ List.replicate (List.length xs) v0 ++ ar.toList.drop (List.length xs)).toArray) := by
            rw [hvv]
            obtain ⟨m, hm⟩ : ∃ m, List.length xs = m + 1 := ⟨List.length xs - 1, by omega⟩
            rw [hm] at hst ⊢
            simp [Builtin.clear_, run_underlying hel, zeroValue, typeInfo, hi, hzv, hzc, zeroCells_one]
            rw [show (List.replicate (m + 1) v0 ++ List.drop (m + 1) ar.toList).toArray = (ar.toList.take 0 ++ List.replicate (m + 1) v0 ++ ar.toList.drop (m + 1)).toArray from by simp, ← Array.toList_empty] at *
            rw [hst]
            rfl
          unfold execOp
          rw [hop]
          simp only [Sem.run_bind, resolve, hc, hx, ht, Sem.run_pure, Result.andThen_ok, invoke, builtin]
          have : (Array.map a.eval ⟨[x]⟩ : Array Value) = #[a.eval x] := by simp
          rw [this]
          rw [show (⟨[t]⟩ : Array TypeId) = #[t] from rfl, hb]
          rfl
        · have hsz : List.length xs ≤ ar.size := by
            rw [ho.size, hone, Nat.one_mul]; exact ho.room
          simp only [List.take_zero, List.nil_append, List.size_toArray, List.length_append, List.length_replicate, List.length_drop, Array.length_toList]
          omega
        · rw [hone, Nat.one_mul]
          simp only [List.take_zero, List.nil_append]
          rw [List.take_append_of_le_length (by simp), List.take_of_length_le (by simp)]
          exact same_rep hatom.2 _
      cases b with
      | false =>
        obtain ⟨u, hu, d', f1, f2⟩ := h.slot r _ hroot
        obtain rfl := some_eq' f1 q1
        have hu' : u = a.eval x := some_eq' hu hhdr
        subst hu'
        obtain ⟨g, cap, ar, ty, fz, K, hvv, hG, ho, ar1, s1, s2, s3⟩ := hrow f2
        have hnd := h.nodup false r
        rw [hG] at hnd
        rw [hvv] at hu
        exact ⟨_, s1, h.setRowS hroot hu (fun b hb => by rw [hG]; exact hb) ho (by simp) s2 s3 .nil (by simp) (List.nodup_cons.1 hnd).1 (by simp) k2⟩
      | true =>
        obtain ⟨cs, g1, g2⟩ := hroot
        obtain ⟨br, bty, F', k1', k2', k3'⟩ := h.box r cs g1
        obtain ⟨v1, A, X, B, p1, rfl, p3, p4⟩ := RepL.swap k3' g2
        have hv' : v1 = a.eval x := by
          have hcc := hhdr.2
          simp only [World.cell?, k1'] at hcc
          simp at hcc
          exact some_eq' (by simpa using p1) hcc
        subst hv'
        obtain ⟨dd, t1, t2, t3⟩ := p3
        obtain rfl := some_eq' q1 t1
        obtain ⟨g, cap, ar, ty, fz, K, hvv, hG, ho, ar1, s1, s2, s3⟩ := hrow (valRep_atom ⟨t2, t3⟩)
        subst hG
        rw [hvv] at p1
        refine ⟨_, s1, fun cs' hcs' => ?_⟩
        obtain rfl : cs = cs' := by rw [hcs'] at g1; simpa using g1.symm
        exact h.setRowB g1 k1' k2' (by rw [hvv] at p4; exact p4) (List.getElem?_eq_some_iff.1 g2).1 p1 ho (by simp) s2 s3 .nil (by simp) (by simp) k2
    cases b with
    | false =>
      have := Rd.pure_some hs8
      subst this
      obtain ⟨w', hw, hI⟩ := hgo he
      refine wp_value hw ?_
      rw [hd]
      exact hI
    | true =>
      obtain ⟨bx, l17, l18, h9, hs9, _⟩ := Rd.bind_some hs8
      have hbx := Rd.box_some h9
      have := Rd.pure_some hs9
      subst this
      obtain ⟨w', hw, hI⟩ := hgo he
      refine wp_value hw ?_
      rw [hd]
      exact hI bx hbx
  | pel b r c' m2 i2 f2 =>
    obtain ⟨⟨y, mm⟩, l13, l14, h7, hs7, _⟩ := Rd.bind_some hs6
    obtain ⟨_, l15, l16, h8, hs8, _⟩ := Rd.bind_some hs7
    have hmm := Rd.guard_some h8
    simp only [Bool.and_eq_true, beq_iff_eq] at hmm
    obtain ⟨⟨hmm, hf2⟩, hm2⟩ := hmm
    have hmm : mm = .sh := by cases mm <;> simp [Md.isSh] at hmm; rfl
    subst hmm hf2 hm2
    have hroot := rootA_some h7
    obtain ⟨⟨_, g0, len0, cap0, kk, n, e1, e2, _, _, e5⟩, hro⟩ := opnd_pel (i := x) h h6
    rw [pelV_win] at e5
    obtain ⟨d1, G, q1, r1, _⟩ := root_rep h hroot e1
    have hgo : EmOk Fn ρ nv [.e ⟨.clr, [z, y, i2]⟩] → ∃ w', (execOp a.eval o).run P w = .ok (.value (.tuple #[])) w' ∧ ElDone sh0 w0 G0 ρ σ a w' (.var nv) .sh r c' b := by
      intro hem
      obtain ⟨dy, k1, k2⟩ := hem.1
      unfold ev at k1
      simp only [evAs, q1, e4, e2] at k1
      obtain ⟨e', xs, yv, kk', n', rfl, rfl, hn', hn0, hnl, rfl⟩ := clr3_inv k1
      simp only [Sigma.mk.injEq, Ty.int.injEq] at hn'
      obtain ⟨rfl, hn'⟩ := hn'
      have hn' : n = n' := by simpa using hn'
      subst hn'
      have hone : e'.n = 1 := by have := hatom.2.len; simpa using this.symm
      have hcell1 : v0.oneCell' = true := Rep.one' hatom.2 v0 (by simp)
      have hln : n.toNat < List.length xs := by omega
      have hlen1 : List.length (List.take n.toNat xs ++ List.replicate (List.length xs - n.toNat) yv) = List.length xs := by
        rw [List.length_append, List.length_take, List.length_replicate]; omega
      have hrow : ∀ {X : List Nat}, ValRep sh w ⟨.sl e', xs⟩ (.own .sh) (.slice (some ⟨g0, 0, none⟩) len0 cap0) X → ∃ g cap ar ty fz K, Value.slice (some ⟨g0, 0, none⟩) len0 cap0 = .slice (some ⟨g, 0, none⟩) (List.length xs) cap ∧ X = g :: K ∧ OwnRow sh w e' .sh xs g cap ar ty fz K ∧
          ∃ ar1, (execOp a.eval o).run P w = .ok (.value (.tuple #[])) (w.setRow g ar1) ∧ ar1.size = ar.size ∧ RepL (fun x vs F => Rep sh w e' .sh x vs F) (List.take n.toNat xs ++ List.replicate (List.length xs - n.toNat) yv) (ar1.toList.take (e'.n * List.length xs)) [] := by
        intro X hX
        rcases own_row hX with ⟨_, _, hl0, _⟩ | ⟨g, cap, ar, ty, fz, K, hvv, hG, ho⟩
        · rw [hl0] at hln; simp at hln
        have hvv' := hvv
        simp only [Value.slice.injEq, Option.some.injEq, Addr.mk.injEq, and_true] at hvv'
        obtain ⟨rfl, rfl, rfl⟩ := hvv'
        have hsz : List.length xs ≤ ar.size := by
          rw [ho.size, hone, Nat.one_mul]; exact ho.room
        refine ⟨g0, cap0, ar, ty, fz, K, rfl, hG, ho, (ar.toList.take n.toNat ++ List.replicate (List.length xs - n.toNat) v0 ++ ar.toList.drop (List.length xs)).toArray, ?_, ?_, ?_⟩
        · have hst := run_storeCells_fz P g0 n.toNat ty fz (List.replicate (List.length xs - n.toNat) v0) 0 ar w ho.heap ho.frozen.all (by simp; omega) (fun u hu => by rw [List.eq_of_mem_replicate hu]; exact hcell1)
          simp only [Nat.add_zero, List.length_replicate] at hst
          rw [show n.toNat + (List.length xs - n.toNat) = List.length xs by omega] at hst
          have hb : (Builtin.clear_ #[t] o.type #[a.eval x]).run P w = .ok (.tuple #[]) (w.setRow g0 (ar.toList.take n.toNat ++ List.replicate (List.length xs - n.toNat) v0 ++ ar.toList.drop (List.length xs)).toArray) := by
            rw [e5]
            obtain ⟨m, hm⟩ : ∃ m, List.length xs - n.toNat = m + 1 := ⟨List.length xs - n.toNat - 1, by omega⟩
            rw [hm] at hst ⊢
            simp [Builtin.clear_, run_underlying hel, zeroValue, typeInfo, hi, hzv, hzc, zeroCells_one]
            rw [hst, List.append_assoc]
            rfl
          unfold execOp
          rw [hop]
          simp only [Sem.run_bind, resolve, hc, hx, ht, Sem.run_pure, Result.andThen_ok, invoke, builtin]
          have : (Array.map a.eval ⟨[x]⟩ : Array Value) = #[a.eval x] := by simp
          rw [this]
          rw [show (⟨[t]⟩ : Array TypeId) = #[t] from rfl, hb]
          rfl
        · simp only [List.size_toArray, List.length_append, List.length_replicate, List.length_drop, List.length_take, Array.length_toList]
          omega
        · have hF : K = [] := RepL.empty (fun x vs G h => Rep.sh_nil h) ho.rep
          have hr := ho.rep
          subst hF
          have hp := RepL.part (fun x vs F h => Rep.len h) 0 n.toNat hr
          rw [Nat.mul_zero, List.drop_zero, List.drop_zero, hone, Nat.one_mul, Nat.one_mul, List.take_take, Nat.min_eq_left (by omega)] at hp
          rw [hone, Nat.one_mul]
          have hcells : (ar.toList.take n.toNat ++ List.replicate (List.length xs - n.toNat) v0 ++ ar.toList.drop (List.length xs)).take (List.length xs) = ar.toList.take n.toNat ++ List.replicate (List.length xs - n.toNat) v0 := by
            have hl : (ar.toList.take n.toNat ++ List.replicate (List.length xs - n.toNat) v0).length = List.length xs := by
              rw [List.length_append, List.length_take, List.length_replicate, Array.length_toList]; omega
            rw [List.take_append_of_le_length (by omega), List.take_of_length_le (by omega)]
          show RepL _ _ (List.take _ (ar.toList.take n.toNat ++ List.replicate (List.length xs - n.toNat) v0 ++ ar.toList.drop (List.length xs))) []
          rw [hcells]
          exact hp.app (same_rep hatom.2 _)
      cases b with
      | false =>
        obtain ⟨u, hu, d', f1, f2⟩ := h.slot r _ hroot
        obtain rfl := some_eq' f1 q1
        have hu' : u = .slice (some ⟨g0, 0, none⟩) len0 cap0 := some_eq' hu e1
        subst hu'
        obtain ⟨g, cap, ar, ty, fz, K, hvv, hG, ho, ar1, s1, s2, s3⟩ := hrow f2
        have hnd := h.nodup false r
        rw [hG] at hnd
        rw [hvv] at hu
        exact ⟨_, s1, h.setRowS hroot hu (fun b hb => by rw [hG]; exact hb) ho hlen1 s2 s3 .nil (by simp) (List.nodup_cons.1 hnd).1 (by simp) k2⟩
      | true =>
        obtain ⟨cs, g1, g2⟩ := hroot
        obtain ⟨br, bty, F', k1', k2', k3'⟩ := h.box r cs g1
        obtain ⟨v1, A, X, B, p1, rfl, p3, p4⟩ := RepL.swap k3' g2
        have hv' : v1 = .slice (some ⟨g0, 0, none⟩) len0 cap0 := by
          have hcc := e1.2
          simp only [World.cell?, k1'] at hcc
          simp at hcc
          exact some_eq' (by simpa using p1) hcc
        subst hv'
        obtain ⟨dd, t1, t2, t3⟩ := p3
        obtain rfl := some_eq' q1 t1
        obtain ⟨g, cap, ar, ty, fz, K, hvv, hG, ho, ar1, s1, s2, s3⟩ := hrow (valRep_atom ⟨t2, t3⟩)
        subst hG
        rw [hvv] at p1
        refine ⟨_, s1, fun cs' hcs' => ?_⟩
        obtain rfl : cs = cs' := by rw [hcs'] at g1; simpa using g1.symm
        exact h.setRowB g1 k1' k2' (by rw [hvv] at p4; exact p4) (List.getElem?_eq_some_iff.1 g2).1 p1 ho hlen1 s2 s3 .nil (by simp) (by simp) k2
    cases b with
    | false =>
      have := Rd.pure_some hs8
      subst this
      obtain ⟨w', hw, hI⟩ := hgo he
      refine wp_value hw ?_
      rw [hd]
      exact hI
    | true =>
      obtain ⟨bx, l17, l18, h9, hs9, _⟩ := Rd.bind_some hs8
      have hbx := Rd.box_some h9
      have := Rd.pure_some hs9
      subst this
      obtain ⟨w', hw, hI⟩ := hgo he
      refine wp_value hw ?_
      rw [hd]
      exact hI bx hbx
  | _ => cases hs6

end
end Go.Vm
