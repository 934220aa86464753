/- A state read out of bytes, by the program and by the reference. Lemmas alone, no statement. -/
import Derived.Test.YtecleaangfcloabVpSbFnExactStateRead
namespace Go.Proofs.Ytecleaangfcloab.VtFnExactStateRead
set_option linter.unusedVariables false
set_option linter.unusedSimpArgs false
open Go Go.Vm
theorem ev_appG {ρ : List Dy} {a b : A} {e : Ty} {l m : List (D e)} (ha : evA ρ a = some ⟨.sl e, l⟩) (hb : evA ρ b = some ⟨.sl e, m⟩) (hl : l.length + m.length < maxRow) : ev ρ ⟨.app e, [a, b]⟩ = some ⟨.sl e, l ++ m⟩ := by
  simp only [ev, evAs, ha, hb, evX, Dy.as, dif_pos, hl, if_true]
  rfl
theorem ans_joinR {F : Fns} {N : Nat} {ρ : List Dy} {Ls : List Lb} {Q : List Dy → Prop} {α : Type} {body main : IR} (enc : α → List Dy) (P : α → Prop) (hb : ∀ a, P a → Ans (den F N body (ρ ++ enc a) (Ls ++ [fun _ => none])) Q) (hm : ∀ J : Lb, (∀ a, P a → Ans (J (enc a)) Q) → Ans (den F N main ρ (Ls ++ [J])) Q) : Ans (den F N (.label false body main) ρ Ls) Q :=
  hm _ hb
theorem all_snoc {α : Type} {p : α → Prop} {l : List α} {x : α} (h : ∀ y ∈ l, p y) (hx : p x) : ∀ y ∈ l ++ [x], p y := by
  intro y hy
  rcases List.mem_append.1 hy with hy | hy
  · exact h y hy
  · rw [List.mem_singleton.1 hy]; exact hx
theorem all_nil {α : Type} {p : α → Prop} : ∀ y ∈ ([] : List α), p y := by intro y hy; simp at hy
theorem num_hit {b : List Int} {a m : Int} {l : List Int} (h : At b a (put m ++ l)) (hm : NumG m) : (getN b a).1 = m ∧ At b (getN b a).2 l := by
  obtain ⟨a', e, h'⟩ := get_put h hm.1 hm.2
  rw [e]
  exact ⟨rfl, h'⟩
theorem text_hit {b t : List Int} {a : Int} {l : List Int} (h : At b a (put t.length ++ (t ++ l))) (ht : t.length ≤ 20) : (getT b a).1 = t ∧ At b (getT b a).2 l := by
  obtain ⟨a', e, h'⟩ := get_text h ht
  rw [e]
  exact ⟨rfl, h'⟩
theorem cnt_hit {b : List Int} {a m k : Int} {l : List Int} (h : At b a (put m ++ l)) (hm : NumG m) (hk : m ≤ k) : (getC b k a).1 = m ∧ At b (getC b k a).2 l := by
  obtain ⟨e, h'⟩ := num_hit h hm
  unfold getC
  rw [if_neg (by omega)]
  exact ⟨e, h'⟩
theorem getC_ok {b : List Int} {k : Int} (a : Int) (hb : By b) (hk : 0 ≤ k) : 0 ≤ (getC b k a).1 ∧ (getC b k a).1 ≤ k ∧ -1 ≤ (getC b k a).2 ∧ (getC b k a).2 ≤ b.length := by
  obtain ⟨h1, h2, h3, h4⟩ := getN_ok a hb
  unfold getC
  split
  · dsimp only; omega
  · omega
theorem by_app {a b : List Int} (ha : By a) (hb : By b) : By (a ++ b) := by
  intro x hx
  rcases List.mem_append.1 hx with h | h
  · exact ha x h
  · exact hb x h
theorem by_flat {α : Type} {f : α → List Int} {l : List α} (h : ∀ y ∈ l, By (f y)) : By (l.flatMap f) := by
  intro x hx
  obtain ⟨y, hy, hx⟩ := List.mem_flatMap.1 hx
  exact h y hy x hx
theorem by_num {m : Int} (h : NumG m) : By (put m) := put_by h.1 h.2
def TxtK (t : List Int) : Prop := t.length ≤ 20 ∧ By t
def RowK (r : D RowT) : Prop := TxtK r.1 ∧ TxtK r.2.1
def TombK (t : D TombT) : Prop := TxtK t.1
def SessK (x : D SessT) : Prop := True
def LastK (x : D LastT) : Prop := True
theorem num_len {t : List Int} (h : t.length ≤ 20) : NumG (t.length : Int) := ⟨by omega, by unfold maxN; omega⟩
theorem enc_by {i0 lost : Int} {rows : List (D RowT)} {tombs : List (D TombT)} {ss : List (D SessT)} {lasts : List (D LastT)} (hg : Gd i0 lost rows tombs ss lasts) (hr : ∀ y ∈ rows, RowK y) (ht : ∀ y ∈ tombs, TombK y) : By (enc i0 lost rows tombs ss lasts) := by
  obtain ⟨gi, gl, gr, gt, gs, gc, grg, gtg, gsg, gcg⟩ := hg
  have nl : ∀ n : Nat, n ≤ 20 → NumG n := fun n hn => ⟨by omega, by unfold maxN; omega⟩
  have hbit : ∀ d, NumG (bit d) := fun d => by cases d <;> exact ⟨by decide, by decide⟩
  unfold enc encR encT encS encL
  refine by_app (by_num gi) (by_app (by_num gl) (by_app (by_num (nl _ gr)) (by_app (by_flat fun y hy => ?_) (by_app (by_num (nl _ (by omega))) (by_app (by_flat fun y hy => ?_) (by_app (by_num (nl _ (by omega))) (by_app (by_flat fun y hy => ?_) (by_app (by_num (nl _ (by omega))) (by_app (by_flat fun y hy => ?_) all_nil)))))))))
  · obtain ⟨k1, k2⟩ := hr y hy
    obtain ⟨g1, g2, g3, g4⟩ := grg y hy
    exact by_app (by_num (num_len k1.1)) (by_app k1.2 (by_app (by_num (num_len k2.1)) (by_app k2.2 (by_app (by_num g3) (by_num g4)))))
  · have k1 := ht y hy
    obtain ⟨g1, g2⟩ := gtg y hy
    exact by_app (by_num (num_len k1.1)) (by_app k1.2 (by_num g2))
  · exact by_app (by_num (gsg y hy)) (by_num (hbit _))
  · obtain ⟨g1, g2, g3, g4⟩ := gcg y hy
    exact by_app (by_num g1) (by_app (by_num g2) (by_app (by_num g3) (by_num g4)))
def readRow (b : List Int) (a : Int) : D RowT × Int := (((getT b a).1, (getT b (getT b a).2).1, (getN b (getT b (getT b a).2).2).1, (getN b (getN b (getT b (getT b a).2).2).2).1, ()), (getN b (getN b (getT b (getT b a).2).2).2).2)
def readTomb (b : List Int) (a : Int) : D TombT × Int := (((getT b a).1, (getN b (getT b a).2).1, ()), (getN b (getT b a).2).2)
def readSess (b : List Int) (a : Int) : D SessT × Int := (((getN b a).1, (getN b (getN b a).2).1 == 1, ()), (getN b (getN b a).2).2)
def readLast (b : List Int) (a : Int) : D LastT × Int := (((getN b a).1, (getN b (getN b a).2).1, (getN b (getN b (getN b a).2).2).1, (getN b (getN b (getN b (getN b a).2).2).2).1, ()), (getN b (getN b (getN b (getN b a).2).2).2).2)
theorem row_hit {b : List Int} {a : Int} {r : D RowT} {l : List Int} (h : At b a (encRow r ++ l)) (hg : RowG r) : (readRow b a).1 = r ∧ At b (readRow b a).2 l := by
  obtain ⟨g1, g2, g3, g4⟩ := hg
  unfold encRow at h
  simp only [List.append_assoc] at h
  obtain ⟨e1, h⟩ := text_hit h g1
  obtain ⟨e2, h⟩ := text_hit h g2
  obtain ⟨e3, h⟩ := num_hit h g3
  obtain ⟨e4, h⟩ := num_hit h g4
  refine ⟨?_, h⟩
  unfold readRow
  dsimp only
  rw [e4, e3, e2, e1]
theorem tomb_hit {b : List Int} {a : Int} {r : D TombT} {l : List Int} (h : At b a (encTomb r ++ l)) (hg : TombG r) : (readTomb b a).1 = r ∧ At b (readTomb b a).2 l := by
  obtain ⟨g1, g2⟩ := hg
  unfold encTomb at h
  simp only [List.append_assoc] at h
  obtain ⟨e1, h⟩ := text_hit h g1
  obtain ⟨e2, h⟩ := num_hit h g2
  refine ⟨?_, h⟩
  unfold readTomb
  dsimp only
  rw [e2, e1]
theorem bit_hit (d : Bool) : (bit d == 1) = d := by cases d <;> rfl
theorem sess_hit {b : List Int} {a : Int} {r : D SessT} {l : List Int} (h : At b a (encSess r ++ l)) (hg : SessG r) : (readSess b a).1 = r ∧ At b (readSess b a).2 l := by
  have hbit : ∀ d, NumG (bit d) := fun d => by cases d <;> exact ⟨by decide, by decide⟩
  unfold encSess at h
  simp only [List.append_assoc] at h
  obtain ⟨e1, h⟩ := num_hit h hg
  obtain ⟨e2, h⟩ := num_hit h (hbit _)
  refine ⟨?_, h⟩
  unfold readSess
  dsimp only
  rw [e2, e1, bit_hit]
theorem last_hit {b : List Int} {a : Int} {r : D LastT} {l : List Int} (h : At b a (encLast r ++ l)) (hg : LastG r) : (readLast b a).1 = r ∧ At b (readLast b a).2 l := by
  obtain ⟨g1, g2, g3, g4⟩ := hg
  unfold encLast at h
  simp only [List.append_assoc] at h
  obtain ⟨e1, h⟩ := num_hit h g1
  obtain ⟨e2, h⟩ := num_hit h g2
  obtain ⟨e3, h⟩ := num_hit h g3
  obtain ⟨e4, h⟩ := num_hit h g4
  refine ⟨?_, h⟩
  unfold readLast
  dsimp only
  rw [e4, e3, e2, e1]
theorem hitI {τ : Type} {f : τ → List Int} {rd : List Int → Int → τ × Int} {G : τ → Prop} (hr : ∀ {b : List Int} {a : Int} {r : τ} {l : List Int}, At b a (f r ++ l) → G r → (rd b a).1 = r ∧ At b (rd b a).2 l) {b : List Int} {a n : Int} {tgt acc : List τ} {X : List Int} (hg : ∀ y ∈ tgt, G y)
    (h : ∃ rest, tgt = acc ++ rest ∧ n = (rest.length : Int) ∧ At b a (rest.flatMap f ++ X)) (hn : n > 0) : ∃ rest, tgt = (acc ++ [(rd b a).1]) ++ rest ∧ n - 1 = (rest.length : Int) ∧ At b (rd b a).2 (rest.flatMap f ++ X) := by
  obtain ⟨rest, h1, h2, h3⟩ := h
  cases rest with
  | nil => simp at h2; omega
  | cons r rest =>
    rw [List.flatMap_cons, List.append_assoc] at h3
    obtain ⟨e, h4⟩ := hr h3 (hg r (by rw [h1]; simp))
    refine ⟨rest, by rw [h1, e]; simp, ?_, h4⟩
    rw [List.length_cons] at h2
    omega
theorem endI {τ : Type} {f : τ → List Int} {b : List Int} {a n : Int} {tgt acc : List τ} {X : List Int} (h : ∃ rest, tgt = acc ++ rest ∧ n = (rest.length : Int) ∧ At b a (rest.flatMap f ++ X)) (hn : ¬ n > 0) : acc = tgt ∧ At b a X := by
  obtain ⟨rest, h1, h2, h3⟩ := h
  cases rest with
  | nil => exact ⟨by rw [h1]; simp, h3⟩
  | cons r rest => rw [List.length_cons] at h2; omega
theorem hitS {τ : Type} {f : τ → List Int} {rd : List Int → Int → τ × Int} {G : τ → Prop} (hr : ∀ {b : List Int} {a : Int} {r : τ} {l : List Int}, At b a (f r ++ l) → G r → (rd b a).1 = r ∧ At b (rd b a).2 l) {b : List Int} {a : Int} {tgt acc : List τ} {X : List Int} (hg : ∀ y ∈ tgt, G y)
    (h : ∃ rest, tgt = acc ++ rest ∧ ((rest.length : Nat) : Int) = (rest.length : Int) ∧ At b a (rest.flatMap f ++ X)) (hn : acc.length < tgt.length) : ∃ rest, tgt = (acc ++ [(rd b a).1]) ++ rest ∧ ((rest.length : Nat) : Int) = (rest.length : Int) ∧ At b (rd b a).2 (rest.flatMap f ++ X) := by
  obtain ⟨rest, h1, _, h3⟩ := h
  have hl := congrArg List.length h1
  rw [List.length_append] at hl
  obtain ⟨r1, q1, q2, q3⟩ := hitI (rd := rd) (n := (rest.length : Int)) hr hg ⟨rest, h1, rfl, h3⟩ (by omega)
  exact ⟨r1, q1, rfl, q3⟩
theorem endS {τ : Type} {f : τ → List Int} {b : List Int} {a : Int} {tgt acc : List τ} {X : List Int} (h : ∃ rest, tgt = acc ++ rest ∧ ((rest.length : Nat) : Int) = (rest.length : Int) ∧ At b a (rest.flatMap f ++ X)) (hn : ¬ acc.length < tgt.length) : acc = tgt ∧ At b a X := by
  obtain ⟨rest, h1, _, h3⟩ := h
  have hl := congrArg List.length h1
  rw [List.length_append] at hl
  exact endI (n := (rest.length : Int)) ⟨rest, h1, rfl, h3⟩ (by omega)
def Ent (b : List Int) (i0 lost : Int) (rows : List (D RowT)) (tombs : List (D TombT)) (ss : List (D SessT)) (lasts : List (D LastT)) : Prop := stateOk i0 lost rows tombs ss lasts = true ∧ b = enc i0 lost rows tombs ss lasts
abbrev St (i0 lost : Int) (rows : List (D RowT)) (tombs : List (D TombT)) (ss : List (D SessT)) (lasts : List (D LastT)) : Dy := ⟨StateT, (i0, rows, tombs, lost, ss, lasts, ())⟩
def Res (b : List Int) (j l : Int) (rs : List (D RowT)) (ts : List (D TombT)) (xs : List (D SessT)) (cs : List (D LastT)) (o : List Dy) : Prop :=
  (o = [St 0 0 [] [] [] [], B false] ∧ ¬ Ent b j l rs ts xs cs) ∨ ∃ (i0 lost : Int) (rows : List (D RowT)) (tombs : List (D TombT)) (ss : List (D SessT)) (lasts : List (D LastT)),
    o = [St i0 lost rows tombs ss lasts, B true] ∧ Ent b i0 lost rows tombs ss lasts ∧ okD StateT (i0, rows, tombs, lost, ss, lasts, ()) ∧ (Ent b j l rs ts xs cs → i0 = j ∧ lost = l ∧ rows = rs ∧ tombs = ts ∧ ss = xs ∧ lasts = cs)
theorem Res.tys {b : List Int} {j l : Int} {rs : List (D RowT)} {ts : List (D TombT)} {xs : List (D SessT)} {cs : List (D LastT)} {o : List Dy} (h : Res b j l rs ts xs cs o) : o.map (·.1) = [StateT, .bool] := by
  rcases h with ⟨rfl, _⟩ | ⟨i0, lost, rows, tombs, ss, lasts, rfl, _⟩ <;> rfl
theorem ok_state {i0 lost : Int} {rows : List (D RowT)} {tombs : List (D TombT)} {ss : List (D SessT)} {lasts : List (D LastT)} (h1 : rows.length < 100) (h2 : tombs.length < 100) (h3 : ss.length < 100) (h4 : lasts.length < 100) (hr : ∀ y ∈ rows, RowK y) (ht : ∀ y ∈ tombs, TombK y) : okD StateT (i0, rows, tombs, lost, ss, lasts, ()) := by
  have hb : 100 < big := by unfold big; omega
  refine ⟨trivial, ⟨by show rows.length < big; omega, fun y hy => ?_⟩, ⟨by show tombs.length < big; omega, fun y hy => ?_⟩, trivial, ⟨by show ss.length < big; omega, fun y hy => ⟨trivial, trivial, trivial⟩⟩, ⟨by show lasts.length < big; omega, fun y hy => ⟨trivial, trivial, trivial, trivial, trivial⟩⟩, trivial⟩
  · obtain ⟨k1, k2⟩ := hr y hy
    exact ⟨⟨Nat.lt_of_le_of_lt k1.1 (by omega), fun _ _ => trivial⟩, ⟨Nat.lt_of_le_of_lt k2.1 (by omega), fun _ _ => trivial⟩, trivial, trivial, trivial⟩
  · exact ⟨⟨Nat.lt_of_le_of_lt (ht y hy).1 (by omega), fun _ _ => trivial⟩, trivial, trivial⟩
theorem row_k {b : List Int} (hb : By b) (a : Int) : RowK (readRow b a).1 ∧ -1 ≤ (readRow b a).2 ∧ (readRow b a).2 ≤ b.length := by
  have o1 := getT_ok a hb
  have o2 := getT_ok (getT b a).2 hb
  have o3 := getN_ok (getN b (getT b (getT b a).2).2).2 hb
  exact ⟨⟨⟨o1.1, o1.2.1⟩, ⟨o2.1, o2.2.1⟩⟩, o3.2.2.1, o3.2.2.2⟩
theorem tomb_k {b : List Int} (hb : By b) (a : Int) : TombK (readTomb b a).1 ∧ -1 ≤ (readTomb b a).2 ∧ (readTomb b a).2 ≤ b.length := by
  have o1 := getT_ok a hb
  have o3 := getN_ok (getT b a).2 hb
  exact ⟨⟨o1.1, o1.2.1⟩, o3.2.2.1, o3.2.2.2⟩
theorem sess_k {b : List Int} (hb : By b) (a : Int) : SessK (readSess b a).1 ∧ -1 ≤ (readSess b a).2 ∧ (readSess b a).2 ≤ b.length := by
  have o3 := getN_ok (getN b a).2 hb
  exact ⟨trivial, o3.2.2.1, o3.2.2.2⟩
theorem last_k {b : List Int} (hb : By b) (a : Int) : LastK (readLast b a).1 ∧ -1 ≤ (readLast b a).2 ∧ (readLast b a).2 ≤ b.length := by
  have o3 := getN_ok (getN b (getN b (getN b a).2).2).2 hb
  exact ⟨trivial, o3.2.2.1, o3.2.2.2⟩
theorem keys_row {rows : List (D RowT)} (hr : ∀ y ∈ rows, RowK y) : ∀ y ∈ rows, List.length y.1 < big ∧ True := fun y hy => ⟨Nat.lt_of_le_of_lt (hr y hy).1.1 (by unfold big; omega), trivial⟩
theorem keys_tomb {tombs : List (D TombT)} (ht : ∀ y ∈ tombs, TombK y) : ∀ y ∈ tombs, List.length y.1 < big ∧ True := fun y hy => ⟨Nat.lt_of_le_of_lt (ht y hy).1 (by unfold big; omega), trivial⟩
set_option maxHeartbeats 8000000 in
theorem readI (N k : Nat) (b : List Int) (j l : Int) (rs : List (D RowT)) (ts : List (D TombT)) (xs : List (D SessT)) (cs : List (D LastT)) (hb : By b) (hm : b.length < big) (hN : big ≤ N) : Ans (Lv N (k + 7) 21 [Bs b]) (Res b j l rs ts xs cs) := by
  have hbig : big = 1048577 := rfl
  have start : Ent b j l rs ts xs cs → At b 0 (put j ++ (put l ++ encR rs ts xs cs)) := fun e => ⟨by omega, by omega, e.2⟩
  have nl : ∀ n : Nat, n ≤ 20 → NumG n := fun n hn => ⟨by omega, by unfold maxN; omega⟩
  refine ans_level rfl rfl ?_ (fun rs h => h.tys)
  unfold ir21
  have o1 := getN_ok 0 hb
  have o2 := getN_ok (getN b 0).2 hb
  refine ans_let rfl (ans_let rfl (ans_let rfl ?_))
  simp only [List.cons_append, List.nil_append]
  refine ans_let rfl (ans_call rfl (tnum N (k + 4) b 0 hb hm hN (by omega) (by omega)) rfl ?_)
  simp only [List.cons_append, List.nil_append]
  refine ans_let rfl (ans_call rfl (tnum N (k + 4) b _ hb hm hN o1.2.2.1 o1.2.2.2) rfl ?_)
  simp only [List.cons_append, List.nil_append]
  have hh : Ent b j l rs ts xs cs → ((getN b 0).1 = j ∧ (getN b (getN b 0).2).1 = l) ∧ At b (getN b (getN b 0).2).2 (encR rs ts xs cs) := by
    intro e
    have g := gd_of e.1
    obtain ⟨e1, h1⟩ := num_hit (start e) g.i
    obtain ⟨e2, h2⟩ := num_hit h1 g.l
    exact ⟨⟨e1, e2⟩, h2⟩
  have ha0 := o2.2.2.1
  have ha1 := o2.2.2.2
  clear o2
  generalize (getN b (getN b 0).2).2 = a at hh ha0 ha1 ⊢
  generalize (getN b (getN b 0).2).1 = lost at hh ⊢
  generalize (getN b 0).1 = i0 at hh ⊢
  clear o1
  have hi : Ent b j l rs ts xs cs → i0 = j ∧ lost = l := fun e => (hh e).1
  have hA : Ent b j l rs ts xs cs → At b a (encR rs ts xs cs) := fun e => (hh e).2
  clear hh start
  refine ans_let rfl (ans_let rfl (ans_let rfl ?_))
  simp only [List.cons_append, List.nil_append]
  refine ans_let rfl (ans_let rfl ?_)
  simp only [List.cons_append, List.nil_append]
  refine ans_call rfl (tcount N (k + 3) 20 b a hb hm hN ha0 ha1) rfl ?_
  simp only [List.cons_append, List.nil_append]
  have oc := getC_ok (k := 20) a hb (by omega)
  have hc : Ent b j l rs ts xs cs → ∃ rest, rs = [] ++ rest ∧ (getC b 20 a).1 = (rest.length : Int) ∧ At b (getC b 20 a).2 (rest.flatMap encRow ++ (encT ts xs cs)) := by
    intro e
    have g := gd_of e.1
    have h0 := g.r
    have h1 := g.t
    have h2 := g.s
    have h3 := g.c
    obtain ⟨e1, h⟩ := cnt_hit (k := 20) (hA e) (nl _ (by omega)) (by omega)
    exact ⟨rs, rfl, e1, h⟩
  generalize (getC b 20 a).1 = n at oc hc ⊢
  generalize (getC b 20 a).2 = a at oc hc ⊢
  refine ans_loop (ans_jump rfl rfl ?_)
  refine rounds_ans (α := Int × List (D RowT) × Int) (enc := fun s => [I s.1, I 0, S RowT [], S TombT [], I 0, S SessT [], S LastT [], I i0, S RowT (s.2.1), S TombT ([]), I lost, S SessT ([]), S LastT ([]), Bs b, I s.2.2]) (Post := fun _ o => Res b j l rs ts xs cs o) (meas := fun s => s.1.toNat)
    (R := fun s => 0 ≤ s.1 ∧ (s.2.1.length : Int) + s.1 ≤ 20 ∧ -1 ≤ s.2.2 ∧ s.2.2 ≤ b.length ∧ (∀ y ∈ s.2.1, RowK y) ∧ (Ent b j l rs ts xs cs → ∃ rest, rs = s.2.1 ++ rest ∧ s.1 = (rest.length : Int) ∧ At b s.2.2 (rest.flatMap encRow ++ (encT ts xs cs)))) ?_ N (n, [], a) ⟨oc.1, by simp; omega, oc.2.2.1, oc.2.2.2, all_nil, hc⟩ (by show n.toNat < N; omega)
  clear oc hc hA ha0 ha1
  rintro J ⟨n, rows, a⟩ ⟨hn0, hn1, ha0, ha1, hkrows, hE⟩ hJ
  dsimp only at hn0 hn1 ha0 ha1 hkrows hE
  dsimp only
  simp only [List.cons_append, List.nil_append]
  refine ans_let rfl (ans_ite (b := decide (n > 0)) rfl (fun c => ?_) (fun c => ?_))
  · have c : n > 0 := of_decide_eq_true c
    simp only [List.cons_append, List.nil_append]
    refine ans_let rfl ?_
    refine ans_let rfl ?_
    refine ans_call rfl (ttext N (k + 3) b a hb hm hN ha0 ha1) rfl ?_
    have o1 := getT_ok (a) hb
    try simp only [List.cons_append, List.nil_append]
    refine ans_let rfl ?_
    try simp only [List.cons_append, List.nil_append]
    refine ans_call rfl (ttext N (k + 3) b ((getT b (a)).2) hb hm hN o1.2.2.1 o1.2.2.2) rfl ?_
    have o2 := getT_ok ((getT b (a)).2) hb
    try simp only [List.cons_append, List.nil_append]
    refine ans_let rfl ?_
    refine ans_call rfl (tnum N (k + 4) b ((getT b ((getT b (a)).2)).2) hb hm hN o2.2.2.1 o2.2.2.2) rfl ?_
    have o3 := getN_ok ((getT b ((getT b (a)).2)).2) hb
    try simp only [List.cons_append, List.nil_append]
    refine ans_let rfl ?_
    try simp only [List.cons_append, List.nil_append]
    refine ans_call rfl (tnum N (k + 4) b ((getN b ((getT b ((getT b (a)).2)).2)).2) hb hm hN o3.2.2.1 o3.2.2.2) rfl ?_
    have o4 := getN_ok ((getN b ((getT b ((getT b (a)).2)).2)).2) hb
    try simp only [List.cons_append, List.nil_append]
    refine ans_let rfl ?_
    refine ans_let rfl ?_
    try simp only [List.cons_append, List.nil_append]
    refine ans_let rfl ?_
    refine ans_let rfl ?_
    try simp only [List.cons_append, List.nil_append]
    refine ans_let rfl ?_
    refine ans_let (d := S RowT [(readRow b a).1]) rfl ?_
    try simp only [List.cons_append, List.nil_append]
    refine ans_let (ev_appG (e := RowT) (l := rows) (m := [(readRow b a).1]) rfl rfl (by unfold maxRow; simp; omega)) ?_
    refine ans_let rfl ?_
    try simp only [List.cons_append, List.nil_append]
    refine ans_let (ev_min (x := n) (y := 1) rfl rfl (by omega) (by omega)) ?_
    try simp only [List.cons_append, List.nil_append]
    refine ans_jump rfl rfl ?_
    have hk := row_k hb a
    exact hJ (n - 1, rows ++ [(readRow b a).1], (readRow b a).2) ⟨by show 0 ≤ n - 1; omega, by show ((rows ++ [(readRow b a).1]).length : Int) + (n - 1) ≤ 20; rw [List.length_append]; simp; omega, hk.2.1, hk.2.2, all_snoc hkrows hk.1, fun e => hitI row_hit (gd_of e.1).rg (hE e) c⟩ (by show (n - 1).toNat < n.toNat; omega)
  have c : ¬ n > 0 := of_decide_eq_false c
  have hrows : Ent b j l rs ts xs cs → rows = rs := fun e => (endI (hE e) c).1
  have hA : Ent b j l rs ts xs cs → At b a (encT ts xs cs) := fun e => (endI (hE e) c).2
  clear hJ hE
  simp only [List.cons_append, List.nil_append]
  refine ans_let rfl (ans_call rfl (tcount N (k + 3) 10 b a hb hm hN ha0 ha1) rfl ?_)
  simp only [List.cons_append, List.nil_append]
  have oc := getC_ok (k := 10) a hb (by omega)
  have hc : Ent b j l rs ts xs cs → ∃ rest, ts = [] ++ rest ∧ (getC b 10 a).1 = (rest.length : Int) ∧ At b (getC b 10 a).2 (rest.flatMap encTomb ++ (encS xs cs)) := by
    intro e
    have g := gd_of e.1
    have h0 := g.r
    have h1 := g.t
    have h2 := g.s
    have h3 := g.c
    obtain ⟨e1, h⟩ := cnt_hit (k := 10) (hA e) (nl _ (by omega)) (by omega)
    exact ⟨ts, rfl, e1, h⟩
  generalize (getC b 10 a).1 = n at oc hc ⊢
  generalize (getC b 10 a).2 = a at oc hc ⊢
  refine ans_loop (ans_jump rfl rfl ?_)
  refine rounds_ans (α := Int × List (D TombT) × Int) (enc := fun s => [I s.1, I 0, S RowT [], S TombT [], I 0, S SessT [], S LastT [], I i0, S RowT (rows), S TombT (s.2.1), I lost, S SessT ([]), S LastT ([]), Bs b, I s.2.2]) (Post := fun _ o => Res b j l rs ts xs cs o) (meas := fun s => s.1.toNat)
    (R := fun s => 0 ≤ s.1 ∧ (s.2.1.length : Int) + s.1 ≤ 10 ∧ -1 ≤ s.2.2 ∧ s.2.2 ≤ b.length ∧ (∀ y ∈ s.2.1, TombK y) ∧ (Ent b j l rs ts xs cs → ∃ rest, ts = s.2.1 ++ rest ∧ s.1 = (rest.length : Int) ∧ At b s.2.2 (rest.flatMap encTomb ++ (encS xs cs)))) ?_ N (n, [], a) ⟨oc.1, by simp; omega, oc.2.2.1, oc.2.2.2, all_nil, hc⟩ (by show n.toNat < N; omega)
  clear oc hc hA ha0 ha1
  rintro J ⟨n, tombs, a⟩ ⟨hn0, hn1, ha0, ha1, hktombs, hE⟩ hJ
  dsimp only at hn0 hn1 ha0 ha1 hktombs hE
  dsimp only
  simp only [List.cons_append, List.nil_append]
  refine ans_let rfl (ans_ite (b := decide (n > 0)) rfl (fun c => ?_) (fun c => ?_))
  · have c : n > 0 := of_decide_eq_true c
    simp only [List.cons_append, List.nil_append]
    refine ans_let rfl ?_
    refine ans_let rfl ?_
    refine ans_call rfl (ttext N (k + 3) b a hb hm hN ha0 ha1) rfl ?_
    have o1 := getT_ok (a) hb
    try simp only [List.cons_append, List.nil_append]
    refine ans_let rfl ?_
    try simp only [List.cons_append, List.nil_append]
    refine ans_call rfl (tnum N (k + 4) b ((getT b (a)).2) hb hm hN o1.2.2.1 o1.2.2.2) rfl ?_
    have o2 := getN_ok ((getT b (a)).2) hb
    try simp only [List.cons_append, List.nil_append]
    refine ans_let rfl ?_
    refine ans_let rfl ?_
    try simp only [List.cons_append, List.nil_append]
    refine ans_let rfl ?_
    refine ans_let (d := S TombT [(readTomb b a).1]) rfl ?_
    try simp only [List.cons_append, List.nil_append]
    refine ans_let (ev_appG (e := TombT) (l := tombs) (m := [(readTomb b a).1]) rfl rfl (by unfold maxRow; simp; omega)) ?_
    refine ans_let rfl ?_
    try simp only [List.cons_append, List.nil_append]
    refine ans_let (ev_min (x := n) (y := 1) rfl rfl (by omega) (by omega)) ?_
    try simp only [List.cons_append, List.nil_append]
    refine ans_jump rfl rfl ?_
    have hk := tomb_k hb a
    exact hJ (n - 1, tombs ++ [(readTomb b a).1], (readTomb b a).2) ⟨by show 0 ≤ n - 1; omega, by show ((tombs ++ [(readTomb b a).1]).length : Int) + (n - 1) ≤ 10; rw [List.length_append]; simp; omega, hk.2.1, hk.2.2, all_snoc hktombs hk.1, fun e => hitI tomb_hit (gd_of e.1).tg (hE e) c⟩ (by show (n - 1).toNat < n.toNat; omega)
  have c : ¬ n > 0 := of_decide_eq_false c
  have htombs : Ent b j l rs ts xs cs → tombs = ts := fun e => (endI (hE e) c).1
  have hA : Ent b j l rs ts xs cs → At b a (encS xs cs) := fun e => (endI (hE e) c).2
  clear hJ hE
  simp only [List.cons_append, List.nil_append]
  refine ans_let rfl (ans_call rfl (tcount N (k + 3) 8 b a hb hm hN ha0 ha1) rfl ?_)
  simp only [List.cons_append, List.nil_append]
  have oc := getC_ok (k := 8) a hb (by omega)
  have hc : Ent b j l rs ts xs cs → ∃ rest, xs = [] ++ rest ∧ (getC b 8 a).1 = (rest.length : Int) ∧ At b (getC b 8 a).2 (rest.flatMap encSess ++ (encL cs)) := by
    intro e
    have g := gd_of e.1
    have h0 := g.r
    have h1 := g.t
    have h2 := g.s
    have h3 := g.c
    obtain ⟨e1, h⟩ := cnt_hit (k := 8) (hA e) (nl _ (by omega)) (by omega)
    exact ⟨xs, rfl, e1, h⟩
  generalize (getC b 8 a).1 = n at oc hc ⊢
  generalize (getC b 8 a).2 = a at oc hc ⊢
  refine ans_loop (ans_jump rfl rfl ?_)
  refine rounds_ans (α := Int × List (D SessT) × Int) (enc := fun s => [I s.1, I 0, S RowT [], S TombT [], I 0, S SessT [], S LastT [], I i0, S RowT (rows), S TombT (tombs), I lost, S SessT (s.2.1), S LastT ([]), Bs b, I s.2.2]) (Post := fun _ o => Res b j l rs ts xs cs o) (meas := fun s => s.1.toNat)
    (R := fun s => 0 ≤ s.1 ∧ (s.2.1.length : Int) + s.1 ≤ 8 ∧ -1 ≤ s.2.2 ∧ s.2.2 ≤ b.length ∧ (∀ y ∈ s.2.1, SessK y) ∧ (Ent b j l rs ts xs cs → ∃ rest, xs = s.2.1 ++ rest ∧ s.1 = (rest.length : Int) ∧ At b s.2.2 (rest.flatMap encSess ++ (encL cs)))) ?_ N (n, [], a) ⟨oc.1, by simp; omega, oc.2.2.1, oc.2.2.2, all_nil, hc⟩ (by show n.toNat < N; omega)
  clear oc hc hA ha0 ha1
  rintro J ⟨n, ss, a⟩ ⟨hn0, hn1, ha0, ha1, hkss, hE⟩ hJ
  dsimp only at hn0 hn1 ha0 ha1 hkss hE
  dsimp only
  simp only [List.cons_append, List.nil_append]
  refine ans_let rfl (ans_ite (b := decide (n > 0)) rfl (fun c => ?_) (fun c => ?_))
  · have c : n > 0 := of_decide_eq_true c
    simp only [List.cons_append, List.nil_append]
    refine ans_let rfl ?_
    refine ans_let rfl ?_
    refine ans_call rfl (tnum N (k + 4) b a hb hm hN ha0 ha1) rfl ?_
    have o1 := getN_ok (a) hb
    try simp only [List.cons_append, List.nil_append]
    refine ans_let rfl ?_
    try simp only [List.cons_append, List.nil_append]
    refine ans_call rfl (tnum N (k + 4) b ((getN b (a)).2) hb hm hN o1.2.2.1 o1.2.2.2) rfl ?_
    have o2 := getN_ok ((getN b (a)).2) hb
    try simp only [List.cons_append, List.nil_append]
    refine ans_let (d := B ((getN b ((getN b (a)).2)).1 == 1)) rfl ?_
    refine ans_let rfl ?_
    try simp only [List.cons_append, List.nil_append]
    refine ans_let rfl ?_
    refine ans_let rfl ?_
    try simp only [List.cons_append, List.nil_append]
    refine ans_let (d := S SessT [(readSess b a).1]) rfl ?_
    refine ans_let (ev_appG (e := SessT) (l := ss) (m := [(readSess b a).1]) rfl rfl (by unfold maxRow; simp; omega)) ?_
    try simp only [List.cons_append, List.nil_append]
    refine ans_let rfl ?_
    refine ans_let (ev_min (x := n) (y := 1) rfl rfl (by omega) (by omega)) ?_
    try simp only [List.cons_append, List.nil_append]
    try simp only [List.cons_append, List.nil_append]
    refine ans_jump rfl rfl ?_
    have hk := sess_k hb a
    exact hJ (n - 1, ss ++ [(readSess b a).1], (readSess b a).2) ⟨by show 0 ≤ n - 1; omega, by show ((ss ++ [(readSess b a).1]).length : Int) + (n - 1) ≤ 8; rw [List.length_append]; simp; omega, hk.2.1, hk.2.2, all_snoc hkss hk.1, fun e => hitI sess_hit (gd_of e.1).sg (hE e) c⟩ (by show (n - 1).toNat < n.toNat; omega)
  have c : ¬ n > 0 := of_decide_eq_false c
  have hss : Ent b j l rs ts xs cs → ss = xs := fun e => (endI (hE e) c).1
  have hA : Ent b j l rs ts xs cs → At b a (encL cs) := fun e => (endI (hE e) c).2
  clear hJ hE
  simp only [List.cons_append, List.nil_append]
  refine ans_let rfl (ans_call rfl (tcount N (k + 3) 4 b a hb hm hN ha0 ha1) rfl ?_)
  simp only [List.cons_append, List.nil_append]
  have oc := getC_ok (k := 4) a hb (by omega)
  have hc : Ent b j l rs ts xs cs → ∃ rest, cs = [] ++ rest ∧ (getC b 4 a).1 = (rest.length : Int) ∧ At b (getC b 4 a).2 (rest.flatMap encLast ++ ([])) := by
    intro e
    have g := gd_of e.1
    have h0 := g.r
    have h1 := g.t
    have h2 := g.s
    have h3 := g.c
    obtain ⟨e1, h⟩ := cnt_hit (k := 4) (hA e) (nl _ (by omega)) (by omega)
    exact ⟨cs, rfl, e1, h⟩
  generalize (getC b 4 a).1 = n at oc hc ⊢
  generalize (getC b 4 a).2 = a at oc hc ⊢
  refine ans_loop (ans_jump rfl rfl ?_)
  refine rounds_ans (α := Int × List (D LastT) × Int) (enc := fun s => [I s.1, I 0, S RowT [], S TombT [], I 0, S SessT [], S LastT [], I i0, S RowT (rows), S TombT (tombs), I lost, S SessT (ss), S LastT (s.2.1), Bs b, I s.2.2]) (Post := fun _ o => Res b j l rs ts xs cs o) (meas := fun s => s.1.toNat)
    (R := fun s => 0 ≤ s.1 ∧ (s.2.1.length : Int) + s.1 ≤ 4 ∧ -1 ≤ s.2.2 ∧ s.2.2 ≤ b.length ∧ (∀ y ∈ s.2.1, LastK y) ∧ (Ent b j l rs ts xs cs → ∃ rest, cs = s.2.1 ++ rest ∧ s.1 = (rest.length : Int) ∧ At b s.2.2 (rest.flatMap encLast ++ ([])))) ?_ N (n, [], a) ⟨oc.1, by simp; omega, oc.2.2.1, oc.2.2.2, all_nil, hc⟩ (by show n.toNat < N; omega)
  clear oc hc hA ha0 ha1
  rintro J ⟨n, lasts, a⟩ ⟨hn0, hn1, ha0, ha1, hklasts, hE⟩ hJ
  dsimp only at hn0 hn1 ha0 ha1 hklasts hE
  dsimp only
  simp only [List.cons_append, List.nil_append]
  refine ans_let rfl (ans_ite (b := decide (n > 0)) rfl (fun c => ?_) (fun c => ?_))
  · have c : n > 0 := of_decide_eq_true c
    simp only [List.cons_append, List.nil_append]
    refine ans_let rfl ?_
    refine ans_let rfl ?_
    refine ans_call rfl (tnum N (k + 4) b a hb hm hN ha0 ha1) rfl ?_
    have o1 := getN_ok (a) hb
    try simp only [List.cons_append, List.nil_append]
    refine ans_let rfl ?_
    try simp only [List.cons_append, List.nil_append]
    refine ans_call rfl (tnum N (k + 4) b ((getN b (a)).2) hb hm hN o1.2.2.1 o1.2.2.2) rfl ?_
    have o2 := getN_ok ((getN b (a)).2) hb
    try simp only [List.cons_append, List.nil_append]
    refine ans_let rfl ?_
    refine ans_call rfl (tnum N (k + 4) b ((getN b ((getN b (a)).2)).2) hb hm hN o2.2.2.1 o2.2.2.2) rfl ?_
    have o3 := getN_ok ((getN b ((getN b (a)).2)).2) hb
    try simp only [List.cons_append, List.nil_append]
    refine ans_let rfl ?_
    try simp only [List.cons_append, List.nil_append]
    refine ans_call rfl (tnum N (k + 4) b ((getN b ((getN b ((getN b (a)).2)).2)).2) hb hm hN o3.2.2.1 o3.2.2.2) rfl ?_
    have o4 := getN_ok ((getN b ((getN b ((getN b (a)).2)).2)).2) hb
    try simp only [List.cons_append, List.nil_append]
    refine ans_let rfl ?_
    refine ans_let rfl ?_
    try simp only [List.cons_append, List.nil_append]
    refine ans_let rfl ?_
    refine ans_let rfl ?_
    try simp only [List.cons_append, List.nil_append]
    refine ans_let rfl ?_
    refine ans_let rfl ?_
    try simp only [List.cons_append, List.nil_append]
    refine ans_let rfl ?_
    refine ans_let (d := S LastT [(readLast b a).1]) rfl ?_
    try simp only [List.cons_append, List.nil_append]
    refine ans_let (ev_appG (e := LastT) (l := lasts) (m := [(readLast b a).1]) rfl rfl (by unfold maxRow; simp; omega)) ?_
    refine ans_let rfl ?_
    try simp only [List.cons_append, List.nil_append]
    refine ans_let (ev_min (x := n) (y := 1) rfl rfl (by omega) (by omega)) ?_
    try simp only [List.cons_append, List.nil_append]
    refine ans_jump rfl rfl ?_
    have hk := last_k hb a
    exact hJ (n - 1, lasts ++ [(readLast b a).1], (readLast b a).2) ⟨by show 0 ≤ n - 1; omega, by show ((lasts ++ [(readLast b a).1]).length : Int) + (n - 1) ≤ 4; rw [List.length_append]; simp; omega, hk.2.1, hk.2.2, all_snoc hklasts hk.1, fun e => hitI last_hit (gd_of e.1).cg (hE e) c⟩ (by show (n - 1).toNat < n.toNat; omega)
  have c : ¬ n > 0 := of_decide_eq_false c
  have hlasts : Ent b j l rs ts xs cs → lasts = cs := fun e => (endI (hE e) c).1
  have hA : Ent b j l rs ts xs cs → At b a ([]) := fun e => (endI (hE e) c).2
  clear hJ hE
  simp only [List.cons_append, List.nil_append]
  have keyR := keys_row hkrows
  have keyT := keys_tomb hktombs
  have hok : okD StateT (i0, rows, tombs, lost, ss, lasts, ()) := ok_state (by omega) (by omega) (by omega) (by omega) hkrows hktombs
  refine ans_joinR (fun d : Bool => [B d]) (fun d => (d = true → ¬ Ent b j l rs ts xs cs) ∧ (d = false → Ent b i0 lost rows tombs ss lasts)) ?_ ?_
  · rintro d ⟨h1, h2⟩
    simp only [List.cons_append, List.nil_append]
    refine ans_ite (b := d) rfl (fun c => ?_) (fun c => ?_)
    · exact ans_let rfl (ans_let rfl (ans_let rfl (ans_ret rfl (.inl ⟨rfl, h1 c⟩))))
    · exact ans_let rfl (ans_let rfl (ans_let rfl (ans_ret rfl (.inr ⟨i0, lost, rows, tombs, ss, lasts, rfl, h2 c, hok, fun e => ⟨(hi e).1, (hi e).2, hrows e, htombs e, hss e, hlasts e⟩⟩))))
  · intro J hJ
    refine ans_let rfl (ans_call rfl (stateOkI N k i0 lost rows tombs ss lasts hN keyR keyT (by omega) (by omega) (by omega) (by omega)) rfl (ans_let rfl (ans_ite (b := !stateOk i0 lost rows tombs ss lasts) rfl (fun c => ?_) (fun c => ?_))))
    · refine ans_jump rfl rfl (hJ true ⟨fun _ e => ?_, fun h => by cases h⟩)
      have e1 := e.1
      rw [← (hi e).1, ← (hi e).2, ← hrows e, ← htombs e, ← hss e, ← hlasts e] at e1
      rw [e1] at c
      simp at c
    · have c : stateOk i0 lost rows tombs ss lasts = true := by simpa using c
      have g := gd_of c
      simp only [List.cons_append, List.nil_append]
      refine ans_let rfl (ans_call rfl (bytesI N (k + 3) g hN) rfl ?_)
      simp only [List.cons_append, List.nil_append]
      refine ans_call rfl (equalI N (k + 5) (enc i0 lost rows tombs ss lasts) b) rfl (ans_let rfl (ans_jump rfl rfl (hJ (!(kb (enc i0 lost rows tombs ss lasts) == kb b)) ⟨fun h e => ?_, fun h => ⟨c, ?_⟩⟩)))
      · have e1 := e.2
        rw [← (hi e).1, ← (hi e).2, ← hrows e, ← htombs e, ← hss e, ← hlasts e] at e1
        rw [← e1] at h
        simp at h
      · have h : kb (enc i0 lost rows tombs ss lasts) = kb b := by simpa using h
        exact (kb_inj (enc_by g hkrows hktombs) hb h).symm
set_option maxHeartbeats 8000000 in
theorem readS (N k : Nat) (b : List Int) (j l : Int) (rs : List (D RowT)) (ts : List (D TombT)) (xs : List (D SessT)) (cs : List (D LastT)) (hb : By b) (hm : b.length < big) (hN : big ≤ N) : Ans (Lv N (k + 7) 30 [Bs b]) (Res b j l rs ts xs cs) := by
  have hbig : big = 1048577 := rfl
  have start : Ent b j l rs ts xs cs → At b 0 (put j ++ (put l ++ encR rs ts xs cs)) := fun e => ⟨by omega, by omega, e.2⟩
  have nl : ∀ n : Nat, n ≤ 20 → NumG n := fun n hn => ⟨by omega, by unfold maxN; omega⟩
  refine ans_level rfl rfl ?_ (fun rs h => h.tys)
  unfold ir30
  have o1 := getN_ok 0 hb
  have o2 := getN_ok (getN b 0).2 hb
  refine ans_let rfl (ans_let rfl (ans_let rfl ?_))
  simp only [List.cons_append, List.nil_append]
  refine ans_let rfl (ans_call rfl (snum N (k + 4) b 0 hb hm hN (by omega) (by omega)) rfl ?_)
  simp only [List.cons_append, List.nil_append]
  refine ans_let rfl (ans_let rfl (ans_let rfl ?_))
  simp only [List.cons_append, List.nil_append]
  refine ans_let rfl (ans_call rfl (snum N (k + 4) b _ hb hm hN o1.2.2.1 o1.2.2.2) rfl ?_)
  simp only [List.cons_append, List.nil_append]
  have hh : Ent b j l rs ts xs cs → ((getN b 0).1 = j ∧ (getN b (getN b 0).2).1 = l) ∧ At b (getN b (getN b 0).2).2 (encR rs ts xs cs) := by
    intro e
    have g := gd_of e.1
    obtain ⟨e1, h1⟩ := num_hit (start e) g.i
    obtain ⟨e2, h2⟩ := num_hit h1 g.l
    exact ⟨⟨e1, e2⟩, h2⟩
  have ha0 := o2.2.2.1
  have ha1 := o2.2.2.2
  clear o2
  generalize (getN b (getN b 0).2).2 = a at hh ha0 ha1 ⊢
  generalize (getN b (getN b 0).2).1 = lost at hh ⊢
  generalize (getN b 0).1 = i0 at hh ⊢
  clear o1
  have hi : Ent b j l rs ts xs cs → i0 = j ∧ lost = l := fun e => (hh e).1
  have hA : Ent b j l rs ts xs cs → At b a (encR rs ts xs cs) := fun e => (hh e).2
  clear hh start
  refine ans_let rfl ?_
  simp only [List.cons_append, List.nil_append]
  refine ans_let rfl (ans_call rfl (snum N (k + 4) b a hb hm hN ha0 ha1) rfl ?_)
  simp only [List.cons_append, List.nil_append]
  have oc := getN_ok a hb
  have hc : Ent b j l rs ts xs cs → (getN b a).1 = ((rs).length : Int) ∧ At b (getN b a).2 (rs.flatMap encRow ++ (encT ts xs cs)) := by
    intro e
    have g := gd_of e.1
    have h0 := g.r
    have h1 := g.t
    have h2 := g.s
    have h3 := g.c
    exact num_hit (hA e) (nl _ (by omega))
  generalize (getN b a).1 = n at oc hc ⊢
  generalize (getN b a).2 = a at oc hc ⊢
  refine ans_joinR (fun s : List (D RowT) × Int => [I 0, S RowT [], S TombT [], I 0, S SessT [], S LastT [], I i0, S RowT (s.1), S TombT ([]), I lost, S SessT ([]), S LastT ([]), Bs b, I s.2]) (fun s => s.1.length ≤ 21 ∧ -1 ≤ s.2 ∧ s.2 ≤ b.length ∧ (∀ y ∈ s.1, RowK y) ∧ (Ent b j l rs ts xs cs → s.1 = rs ∧ At b s.2 (encT ts xs cs))) ?rest0 ?loop0
  case loop0 =>
    intro E0 hE0
    refine ans_loop (ans_jump rfl rfl ?_)
    refine rounds_ans (α := Int × List (D RowT) × Int) (enc := fun s => [I s.1, I 0, S RowT [], S TombT [], I 0, S SessT [], S LastT [], I i0, S RowT (s.2.1), S TombT ([]), I lost, S SessT ([]), S LastT ([]), Bs b, I s.2.2]) (Post := fun _ o => Res b j l rs ts xs cs o) (meas := fun s => (21 - s.1).toNat)
      (R := fun s => 0 ≤ s.1 ∧ (s.2.1.length : Int) = s.1 ∧ s.1 ≤ 21 ∧ -1 ≤ s.2.2 ∧ s.2.2 ≤ b.length ∧ (∀ y ∈ s.2.1, RowK y) ∧ (Ent b j l rs ts xs cs → ∃ rest, rs = s.2.1 ++ rest ∧ ((rest.length : Nat) : Int) = (rest.length : Int) ∧ At b s.2.2 (rest.flatMap encRow ++ (encT ts xs cs)))) ?_ N (0, [], a) ⟨by show (0 : Int) ≤ 0; omega, rfl, by show (0 : Int) ≤ 21; omega, oc.2.2.1, oc.2.2.2, all_nil, fun e => ⟨rs, rfl, rfl, (hc e).2⟩⟩ (by show ((21 : Int) - 0).toNat < N; omega)
    have hcn : Ent b j l rs ts xs cs → n = ((rs).length : Int) := fun e => (hc e).1
    clear oc hc hA ha0 ha1
    rintro J ⟨i, rows, a⟩ ⟨hi0, hi1, hi2, ha0, ha1, hkrows, hE⟩ hJ
    dsimp only at hi0 hi1 hi2 ha0 ha1 hkrows hE
    dsimp only
    simp only [List.cons_append, List.nil_append]
    refine ans_let rfl (ans_ite (b := decide (i < n)) rfl (fun c => ?_) (fun c => ?_))
    · have c : i < n := of_decide_eq_true c
      simp only [List.cons_append, List.nil_append]
      refine ans_let rfl (ans_ite (b := decide (i ≤ 20)) rfl (fun c2 => ?_) (fun c2 => ?_))
      · have c2 : i ≤ 20 := of_decide_eq_true c2
        simp only [List.cons_append, List.nil_append]
        refine ans_let rfl (ans_ite (b := decide (a ≥ 0)) rfl (fun c3 => ?_) (fun c3 => ?_))
        · simp only [List.cons_append, List.nil_append]
          refine ans_let rfl ?_
          refine ans_call rfl (stext N (k + 3) b a hb hm hN ha0 ha1) rfl ?_
          have o1 := getT_ok (a) hb
          try simp only [List.cons_append, List.nil_append]
          refine ans_let rfl ?_
          refine ans_let rfl ?_
          try simp only [List.cons_append, List.nil_append]
          refine ans_let rfl ?_
          refine ans_let rfl ?_
          try simp only [List.cons_append, List.nil_append]
          refine ans_call rfl (stext N (k + 3) b ((getT b (a)).2) hb hm hN o1.2.2.1 o1.2.2.2) rfl ?_
          have o2 := getT_ok ((getT b (a)).2) hb
          try simp only [List.cons_append, List.nil_append]
          refine ans_let rfl ?_
          refine ans_let rfl ?_
          try simp only [List.cons_append, List.nil_append]
          refine ans_call rfl (snum N (k + 4) b ((getT b ((getT b (a)).2)).2) hb hm hN o2.2.2.1 o2.2.2.2) rfl ?_
          have o3 := getN_ok ((getT b ((getT b (a)).2)).2) hb
          try simp only [List.cons_append, List.nil_append]
          refine ans_let rfl ?_
          refine ans_let rfl ?_
          try simp only [List.cons_append, List.nil_append]
          refine ans_call rfl (snum N (k + 4) b ((getN b ((getT b ((getT b (a)).2)).2)).2) hb hm hN o3.2.2.1 o3.2.2.2) rfl ?_
          have o4 := getN_ok ((getN b ((getT b ((getT b (a)).2)).2)).2) hb
          try simp only [List.cons_append, List.nil_append]
          refine ans_let rfl ?_
          refine ans_let rfl ?_
          try simp only [List.cons_append, List.nil_append]
          refine ans_let rfl ?_
          refine ans_let (d := S RowT [(readRow b a).1]) rfl ?_
          try simp only [List.cons_append, List.nil_append]
          refine ans_let (ev_appG (e := RowT) (l := rows) (m := [(readRow b a).1]) rfl rfl (by unfold maxRow; simp; omega)) ?_
          refine ans_let rfl ?_
          try simp only [List.cons_append, List.nil_append]
          refine ans_let (ev_add (x := i) (y := 1) rfl rfl (by omega) (by omega)) ?_
          try simp only [List.cons_append, List.nil_append]
          refine ans_jump rfl rfl ?_
          have hk := row_k hb a
          exact hJ (i + 1, rows ++ [(readRow b a).1], (readRow b a).2) ⟨by show 0 ≤ i + 1; omega, by show ((rows ++ [(readRow b a).1]).length : Int) = i + 1; rw [List.length_append]; simp; omega, by show i + 1 ≤ 21; omega, hk.2.1, hk.2.2, all_snoc hkrows hk.1, fun e => hitS row_hit (gd_of e.1).rg (hE e) (by rw [hcn e] at c; omega)⟩ (by show (21 - (i + 1)).toNat < (21 - i).toNat; omega)
        · have c3 : ¬ a ≥ 0 := of_decide_eq_false c3
          refine ans_jump rfl rfl (hE0 (rows, a) ⟨by show rows.length ≤ 21; omega, ha0, ha1, hkrows, fun e => ?_⟩)
          obtain ⟨rest, _, _, h3⟩ := hE e
          have := h3.1
          omega
      · have c2 : ¬ i ≤ 20 := of_decide_eq_false c2
        refine ans_jump rfl rfl (hE0 (rows, a) ⟨by show rows.length ≤ 21; omega, ha0, ha1, hkrows, fun e => ?_⟩)
        obtain ⟨rest, h1, _, h3⟩ := hE e
        have g := gd_of e.1
        have g0 := g.r
        have g1 := g.t
        have g2 := g.s
        have g3 := g.c
        have h1 := congrArg List.length h1
        rw [List.length_append] at h1
        omega
    · have c : ¬ i < n := of_decide_eq_false c
      refine ans_jump rfl rfl (hE0 (rows, a) ⟨by show rows.length ≤ 21; omega, ha0, ha1, hkrows, fun e => endS (hE e) (by rw [hcn e] at c; show ¬ rows.length < rs.length; omega)⟩)
  case rest0 =>
  clear oc hc hA ha0 ha1
  rintro ⟨rows, a⟩ ⟨hlrows, ha0, ha1, hkrows, hE⟩
  dsimp only at hlrows ha0 ha1 hkrows hE
  dsimp only
  have hrows : Ent b j l rs ts xs cs → rows = rs := fun e => (hE e).1
  have hA : Ent b j l rs ts xs cs → At b a (encT ts xs cs) := fun e => (hE e).2
  clear hE
  simp only [List.cons_append, List.nil_append]
  refine ans_let rfl (ans_call rfl (snum N (k + 4) b a hb hm hN ha0 ha1) rfl ?_)
  simp only [List.cons_append, List.nil_append]
  have oc := getN_ok a hb
  have hc : Ent b j l rs ts xs cs → (getN b a).1 = ((ts).length : Int) ∧ At b (getN b a).2 (ts.flatMap encTomb ++ (encS xs cs)) := by
    intro e
    have g := gd_of e.1
    have h0 := g.r
    have h1 := g.t
    have h2 := g.s
    have h3 := g.c
    exact num_hit (hA e) (nl _ (by omega))
  generalize (getN b a).1 = n at oc hc ⊢
  generalize (getN b a).2 = a at oc hc ⊢
  refine ans_joinR (fun s : List (D TombT) × Int => [I 0, S RowT [], S TombT [], I 0, S SessT [], S LastT [], I i0, S RowT (rows), S TombT (s.1), I lost, S SessT ([]), S LastT ([]), Bs b, I s.2]) (fun s => s.1.length ≤ 11 ∧ -1 ≤ s.2 ∧ s.2 ≤ b.length ∧ (∀ y ∈ s.1, TombK y) ∧ (Ent b j l rs ts xs cs → s.1 = ts ∧ At b s.2 (encS xs cs))) ?rest1 ?loop1
  case loop1 =>
    intro E0 hE0
    refine ans_loop (ans_jump rfl rfl ?_)
    refine rounds_ans (α := Int × List (D TombT) × Int) (enc := fun s => [I s.1, I 0, S RowT [], S TombT [], I 0, S SessT [], S LastT [], I i0, S RowT (rows), S TombT (s.2.1), I lost, S SessT ([]), S LastT ([]), Bs b, I s.2.2]) (Post := fun _ o => Res b j l rs ts xs cs o) (meas := fun s => (11 - s.1).toNat)
      (R := fun s => 0 ≤ s.1 ∧ (s.2.1.length : Int) = s.1 ∧ s.1 ≤ 11 ∧ -1 ≤ s.2.2 ∧ s.2.2 ≤ b.length ∧ (∀ y ∈ s.2.1, TombK y) ∧ (Ent b j l rs ts xs cs → ∃ rest, ts = s.2.1 ++ rest ∧ ((rest.length : Nat) : Int) = (rest.length : Int) ∧ At b s.2.2 (rest.flatMap encTomb ++ (encS xs cs)))) ?_ N (0, [], a) ⟨by show (0 : Int) ≤ 0; omega, rfl, by show (0 : Int) ≤ 11; omega, oc.2.2.1, oc.2.2.2, all_nil, fun e => ⟨ts, rfl, rfl, (hc e).2⟩⟩ (by show ((11 : Int) - 0).toNat < N; omega)
    have hcn : Ent b j l rs ts xs cs → n = ((ts).length : Int) := fun e => (hc e).1
    clear oc hc hA ha0 ha1
    rintro J ⟨i, tombs, a⟩ ⟨hi0, hi1, hi2, ha0, ha1, hktombs, hE⟩ hJ
    dsimp only at hi0 hi1 hi2 ha0 ha1 hktombs hE
    dsimp only
    simp only [List.cons_append, List.nil_append]
    refine ans_let rfl (ans_ite (b := decide (i < n)) rfl (fun c => ?_) (fun c => ?_))
    · have c : i < n := of_decide_eq_true c
      simp only [List.cons_append, List.nil_append]
      refine ans_let rfl (ans_ite (b := decide (i ≤ 10)) rfl (fun c2 => ?_) (fun c2 => ?_))
      · have c2 : i ≤ 10 := of_decide_eq_true c2
        simp only [List.cons_append, List.nil_append]
        refine ans_let rfl (ans_ite (b := decide (a ≥ 0)) rfl (fun c3 => ?_) (fun c3 => ?_))
        · simp only [List.cons_append, List.nil_append]
          refine ans_let rfl ?_
          refine ans_call rfl (stext N (k + 3) b a hb hm hN ha0 ha1) rfl ?_
          have o1 := getT_ok (a) hb
          try simp only [List.cons_append, List.nil_append]
          refine ans_let rfl ?_
          refine ans_let rfl ?_
          try simp only [List.cons_append, List.nil_append]
          refine ans_let rfl ?_
          refine ans_let rfl ?_
          try simp only [List.cons_append, List.nil_append]
          refine ans_call rfl (snum N (k + 4) b ((getT b (a)).2) hb hm hN o1.2.2.1 o1.2.2.2) rfl ?_
          have o2 := getN_ok ((getT b (a)).2) hb
          try simp only [List.cons_append, List.nil_append]
          refine ans_let rfl ?_
          refine ans_let rfl ?_
          try simp only [List.cons_append, List.nil_append]
          refine ans_let rfl ?_
          refine ans_let (d := S TombT [(readTomb b a).1]) rfl ?_
          try simp only [List.cons_append, List.nil_append]
          refine ans_let (ev_appG (e := TombT) (l := tombs) (m := [(readTomb b a).1]) rfl rfl (by unfold maxRow; simp; omega)) ?_
          refine ans_let rfl ?_
          try simp only [List.cons_append, List.nil_append]
          refine ans_let (ev_add (x := i) (y := 1) rfl rfl (by omega) (by omega)) ?_
          try simp only [List.cons_append, List.nil_append]
          refine ans_jump rfl rfl ?_
          have hk := tomb_k hb a
          exact hJ (i + 1, tombs ++ [(readTomb b a).1], (readTomb b a).2) ⟨by show 0 ≤ i + 1; omega, by show ((tombs ++ [(readTomb b a).1]).length : Int) = i + 1; rw [List.length_append]; simp; omega, by show i + 1 ≤ 11; omega, hk.2.1, hk.2.2, all_snoc hktombs hk.1, fun e => hitS tomb_hit (gd_of e.1).tg (hE e) (by rw [hcn e] at c; omega)⟩ (by show (11 - (i + 1)).toNat < (11 - i).toNat; omega)
        · have c3 : ¬ a ≥ 0 := of_decide_eq_false c3
          refine ans_jump rfl rfl (hE0 (tombs, a) ⟨by show tombs.length ≤ 11; omega, ha0, ha1, hktombs, fun e => ?_⟩)
          obtain ⟨rest, _, _, h3⟩ := hE e
          have := h3.1
          omega
      · have c2 : ¬ i ≤ 10 := of_decide_eq_false c2
        refine ans_jump rfl rfl (hE0 (tombs, a) ⟨by show tombs.length ≤ 11; omega, ha0, ha1, hktombs, fun e => ?_⟩)
        obtain ⟨rest, h1, _, h3⟩ := hE e
        have g := gd_of e.1
        have g0 := g.r
        have g1 := g.t
        have g2 := g.s
        have g3 := g.c
        have h1 := congrArg List.length h1
        rw [List.length_append] at h1
        omega
    · have c : ¬ i < n := of_decide_eq_false c
      refine ans_jump rfl rfl (hE0 (tombs, a) ⟨by show tombs.length ≤ 11; omega, ha0, ha1, hktombs, fun e => endS (hE e) (by rw [hcn e] at c; show ¬ tombs.length < ts.length; omega)⟩)
  case rest1 =>
  clear oc hc hA ha0 ha1
  rintro ⟨tombs, a⟩ ⟨hltombs, ha0, ha1, hktombs, hE⟩
  dsimp only at hltombs ha0 ha1 hktombs hE
  dsimp only
  have htombs : Ent b j l rs ts xs cs → tombs = ts := fun e => (hE e).1
  have hA : Ent b j l rs ts xs cs → At b a (encS xs cs) := fun e => (hE e).2
  clear hE
  simp only [List.cons_append, List.nil_append]
  refine ans_let rfl (ans_call rfl (snum N (k + 4) b a hb hm hN ha0 ha1) rfl ?_)
  simp only [List.cons_append, List.nil_append]
  have oc := getN_ok a hb
  have hc : Ent b j l rs ts xs cs → (getN b a).1 = ((xs).length : Int) ∧ At b (getN b a).2 (xs.flatMap encSess ++ (encL cs)) := by
    intro e
    have g := gd_of e.1
    have h0 := g.r
    have h1 := g.t
    have h2 := g.s
    have h3 := g.c
    exact num_hit (hA e) (nl _ (by omega))
  generalize (getN b a).1 = n at oc hc ⊢
  generalize (getN b a).2 = a at oc hc ⊢
  refine ans_joinR (fun s : List (D SessT) × Int => [I 0, S RowT [], S TombT [], I 0, S SessT [], S LastT [], I i0, S RowT (rows), S TombT (tombs), I lost, S SessT (s.1), S LastT ([]), Bs b, I s.2]) (fun s => s.1.length ≤ 9 ∧ -1 ≤ s.2 ∧ s.2 ≤ b.length ∧ (∀ y ∈ s.1, SessK y) ∧ (Ent b j l rs ts xs cs → s.1 = xs ∧ At b s.2 (encL cs))) ?rest2 ?loop2
  case loop2 =>
    intro E0 hE0
    refine ans_loop (ans_jump rfl rfl ?_)
    refine rounds_ans (α := Int × List (D SessT) × Int) (enc := fun s => [I s.1, I 0, S RowT [], S TombT [], I 0, S SessT [], S LastT [], I i0, S RowT (rows), S TombT (tombs), I lost, S SessT (s.2.1), S LastT ([]), Bs b, I s.2.2]) (Post := fun _ o => Res b j l rs ts xs cs o) (meas := fun s => (9 - s.1).toNat)
      (R := fun s => 0 ≤ s.1 ∧ (s.2.1.length : Int) = s.1 ∧ s.1 ≤ 9 ∧ -1 ≤ s.2.2 ∧ s.2.2 ≤ b.length ∧ (∀ y ∈ s.2.1, SessK y) ∧ (Ent b j l rs ts xs cs → ∃ rest, xs = s.2.1 ++ rest ∧ ((rest.length : Nat) : Int) = (rest.length : Int) ∧ At b s.2.2 (rest.flatMap encSess ++ (encL cs)))) ?_ N (0, [], a) ⟨by show (0 : Int) ≤ 0; omega, rfl, by show (0 : Int) ≤ 9; omega, oc.2.2.1, oc.2.2.2, all_nil, fun e => ⟨xs, rfl, rfl, (hc e).2⟩⟩ (by show ((9 : Int) - 0).toNat < N; omega)
    have hcn : Ent b j l rs ts xs cs → n = ((xs).length : Int) := fun e => (hc e).1
    clear oc hc hA ha0 ha1
    rintro J ⟨i, ss, a⟩ ⟨hi0, hi1, hi2, ha0, ha1, hkss, hE⟩ hJ
    dsimp only at hi0 hi1 hi2 ha0 ha1 hkss hE
    dsimp only
    simp only [List.cons_append, List.nil_append]
    refine ans_let rfl (ans_ite (b := decide (i < n)) rfl (fun c => ?_) (fun c => ?_))
    · have c : i < n := of_decide_eq_true c
      simp only [List.cons_append, List.nil_append]
      refine ans_let rfl (ans_ite (b := decide (i ≤ 8)) rfl (fun c2 => ?_) (fun c2 => ?_))
      · have c2 : i ≤ 8 := of_decide_eq_true c2
        simp only [List.cons_append, List.nil_append]
        refine ans_let rfl (ans_ite (b := decide (a ≥ 0)) rfl (fun c3 => ?_) (fun c3 => ?_))
        · simp only [List.cons_append, List.nil_append]
          refine ans_let rfl ?_
          refine ans_call rfl (snum N (k + 4) b a hb hm hN ha0 ha1) rfl ?_
          have o1 := getN_ok (a) hb
          try simp only [List.cons_append, List.nil_append]
          refine ans_let rfl ?_
          refine ans_let rfl ?_
          try simp only [List.cons_append, List.nil_append]
          refine ans_let rfl ?_
          refine ans_let rfl ?_
          try simp only [List.cons_append, List.nil_append]
          refine ans_call rfl (snum N (k + 4) b ((getN b (a)).2) hb hm hN o1.2.2.1 o1.2.2.2) rfl ?_
          have o2 := getN_ok ((getN b (a)).2) hb
          try simp only [List.cons_append, List.nil_append]
          refine ans_let (d := B ((getN b ((getN b (a)).2)).1 == 1)) rfl ?_
          refine ans_let rfl ?_
          try simp only [List.cons_append, List.nil_append]
          refine ans_let rfl ?_
          refine ans_let rfl ?_
          try simp only [List.cons_append, List.nil_append]
          refine ans_let (d := S SessT [(readSess b a).1]) rfl ?_
          refine ans_let (ev_appG (e := SessT) (l := ss) (m := [(readSess b a).1]) rfl rfl (by unfold maxRow; simp; omega)) ?_
          try simp only [List.cons_append, List.nil_append]
          refine ans_let rfl ?_
          refine ans_let (ev_add (x := i) (y := 1) rfl rfl (by omega) (by omega)) ?_
          try simp only [List.cons_append, List.nil_append]
          try simp only [List.cons_append, List.nil_append]
          refine ans_jump rfl rfl ?_
          have hk := sess_k hb a
          exact hJ (i + 1, ss ++ [(readSess b a).1], (readSess b a).2) ⟨by show 0 ≤ i + 1; omega, by show ((ss ++ [(readSess b a).1]).length : Int) = i + 1; rw [List.length_append]; simp; omega, by show i + 1 ≤ 9; omega, hk.2.1, hk.2.2, all_snoc hkss hk.1, fun e => hitS sess_hit (gd_of e.1).sg (hE e) (by rw [hcn e] at c; omega)⟩ (by show (9 - (i + 1)).toNat < (9 - i).toNat; omega)
        · have c3 : ¬ a ≥ 0 := of_decide_eq_false c3
          refine ans_jump rfl rfl (hE0 (ss, a) ⟨by show ss.length ≤ 9; omega, ha0, ha1, hkss, fun e => ?_⟩)
          obtain ⟨rest, _, _, h3⟩ := hE e
          have := h3.1
          omega
      · have c2 : ¬ i ≤ 8 := of_decide_eq_false c2
        refine ans_jump rfl rfl (hE0 (ss, a) ⟨by show ss.length ≤ 9; omega, ha0, ha1, hkss, fun e => ?_⟩)
        obtain ⟨rest, h1, _, h3⟩ := hE e
        have g := gd_of e.1
        have g0 := g.r
        have g1 := g.t
        have g2 := g.s
        have g3 := g.c
        have h1 := congrArg List.length h1
        rw [List.length_append] at h1
        omega
    · have c : ¬ i < n := of_decide_eq_false c
      refine ans_jump rfl rfl (hE0 (ss, a) ⟨by show ss.length ≤ 9; omega, ha0, ha1, hkss, fun e => endS (hE e) (by rw [hcn e] at c; show ¬ ss.length < xs.length; omega)⟩)
  case rest2 =>
  clear oc hc hA ha0 ha1
  rintro ⟨ss, a⟩ ⟨hlss, ha0, ha1, hkss, hE⟩
  dsimp only at hlss ha0 ha1 hkss hE
  dsimp only
  have hss : Ent b j l rs ts xs cs → ss = xs := fun e => (hE e).1
  have hA : Ent b j l rs ts xs cs → At b a (encL cs) := fun e => (hE e).2
  clear hE
  simp only [List.cons_append, List.nil_append]
  refine ans_let rfl (ans_call rfl (snum N (k + 4) b a hb hm hN ha0 ha1) rfl ?_)
  simp only [List.cons_append, List.nil_append]
  have oc := getN_ok a hb
  have hc : Ent b j l rs ts xs cs → (getN b a).1 = ((cs).length : Int) ∧ At b (getN b a).2 (cs.flatMap encLast ++ ([])) := by
    intro e
    have g := gd_of e.1
    have h0 := g.r
    have h1 := g.t
    have h2 := g.s
    have h3 := g.c
    exact num_hit (hA e) (nl _ (by omega))
  generalize (getN b a).1 = n at oc hc ⊢
  generalize (getN b a).2 = a at oc hc ⊢
  refine ans_joinR (fun s : List (D LastT) × Int => [I 0, S RowT [], S TombT [], I 0, S SessT [], S LastT [], I i0, S RowT (rows), S TombT (tombs), I lost, S SessT (ss), S LastT (s.1), Bs b, I s.2]) (fun s => s.1.length ≤ 5 ∧ -1 ≤ s.2 ∧ s.2 ≤ b.length ∧ (∀ y ∈ s.1, LastK y) ∧ (Ent b j l rs ts xs cs → s.1 = cs ∧ At b s.2 ([]))) ?rest3 ?loop3
  case loop3 =>
    intro E0 hE0
    refine ans_loop (ans_jump rfl rfl ?_)
    refine rounds_ans (α := Int × List (D LastT) × Int) (enc := fun s => [I s.1, I 0, S RowT [], S TombT [], I 0, S SessT [], S LastT [], I i0, S RowT (rows), S TombT (tombs), I lost, S SessT (ss), S LastT (s.2.1), Bs b, I s.2.2]) (Post := fun _ o => Res b j l rs ts xs cs o) (meas := fun s => (5 - s.1).toNat)
      (R := fun s => 0 ≤ s.1 ∧ (s.2.1.length : Int) = s.1 ∧ s.1 ≤ 5 ∧ -1 ≤ s.2.2 ∧ s.2.2 ≤ b.length ∧ (∀ y ∈ s.2.1, LastK y) ∧ (Ent b j l rs ts xs cs → ∃ rest, cs = s.2.1 ++ rest ∧ ((rest.length : Nat) : Int) = (rest.length : Int) ∧ At b s.2.2 (rest.flatMap encLast ++ ([])))) ?_ N (0, [], a) ⟨by show (0 : Int) ≤ 0; omega, rfl, by show (0 : Int) ≤ 5; omega, oc.2.2.1, oc.2.2.2, all_nil, fun e => ⟨cs, rfl, rfl, (hc e).2⟩⟩ (by show ((5 : Int) - 0).toNat < N; omega)
    have hcn : Ent b j l rs ts xs cs → n = ((cs).length : Int) := fun e => (hc e).1
    clear oc hc hA ha0 ha1
    rintro J ⟨i, lasts, a⟩ ⟨hi0, hi1, hi2, ha0, ha1, hklasts, hE⟩ hJ
    dsimp only at hi0 hi1 hi2 ha0 ha1 hklasts hE
    dsimp only
    simp only [List.cons_append, List.nil_append]
    refine ans_let rfl (ans_ite (b := decide (i < n)) rfl (fun c => ?_) (fun c => ?_))
    · have c : i < n := of_decide_eq_true c
      simp only [List.cons_append, List.nil_append]
      refine ans_let rfl (ans_ite (b := decide (i ≤ 4)) rfl (fun c2 => ?_) (fun c2 => ?_))
      · have c2 : i ≤ 4 := of_decide_eq_true c2
        simp only [List.cons_append, List.nil_append]
        refine ans_let rfl (ans_ite (b := decide (a ≥ 0)) rfl (fun c3 => ?_) (fun c3 => ?_))
        · simp only [List.cons_append, List.nil_append]
          refine ans_let rfl ?_
          refine ans_call rfl (snum N (k + 4) b a hb hm hN ha0 ha1) rfl ?_
          have o1 := getN_ok (a) hb
          try simp only [List.cons_append, List.nil_append]
          refine ans_let rfl ?_
          refine ans_let rfl ?_
          try simp only [List.cons_append, List.nil_append]
          refine ans_let rfl ?_
          refine ans_let rfl ?_
          try simp only [List.cons_append, List.nil_append]
          refine ans_call rfl (snum N (k + 4) b ((getN b (a)).2) hb hm hN o1.2.2.1 o1.2.2.2) rfl ?_
          have o2 := getN_ok ((getN b (a)).2) hb
          try simp only [List.cons_append, List.nil_append]
          refine ans_let rfl ?_
          refine ans_let rfl ?_
          try simp only [List.cons_append, List.nil_append]
          refine ans_call rfl (snum N (k + 4) b ((getN b ((getN b (a)).2)).2) hb hm hN o2.2.2.1 o2.2.2.2) rfl ?_
          have o3 := getN_ok ((getN b ((getN b (a)).2)).2) hb
          try simp only [List.cons_append, List.nil_append]
          refine ans_let rfl ?_
          refine ans_let rfl ?_
          try simp only [List.cons_append, List.nil_append]
          refine ans_call rfl (snum N (k + 4) b ((getN b ((getN b ((getN b (a)).2)).2)).2) hb hm hN o3.2.2.1 o3.2.2.2) rfl ?_
          have o4 := getN_ok ((getN b ((getN b ((getN b (a)).2)).2)).2) hb
          try simp only [List.cons_append, List.nil_append]
          refine ans_let rfl ?_
          refine ans_let rfl ?_
          try simp only [List.cons_append, List.nil_append]
          refine ans_let rfl ?_
          refine ans_let (d := S LastT [(readLast b a).1]) rfl ?_
          try simp only [List.cons_append, List.nil_append]
          refine ans_let (ev_appG (e := LastT) (l := lasts) (m := [(readLast b a).1]) rfl rfl (by unfold maxRow; simp; omega)) ?_
          refine ans_let rfl ?_
          try simp only [List.cons_append, List.nil_append]
          refine ans_let (ev_add (x := i) (y := 1) rfl rfl (by omega) (by omega)) ?_
          try simp only [List.cons_append, List.nil_append]
          refine ans_jump rfl rfl ?_
          have hk := last_k hb a
          exact hJ (i + 1, lasts ++ [(readLast b a).1], (readLast b a).2) ⟨by show 0 ≤ i + 1; omega, by show ((lasts ++ [(readLast b a).1]).length : Int) = i + 1; rw [List.length_append]; simp; omega, by show i + 1 ≤ 5; omega, hk.2.1, hk.2.2, all_snoc hklasts hk.1, fun e => hitS last_hit (gd_of e.1).cg (hE e) (by rw [hcn e] at c; omega)⟩ (by show (5 - (i + 1)).toNat < (5 - i).toNat; omega)
        · have c3 : ¬ a ≥ 0 := of_decide_eq_false c3
          refine ans_jump rfl rfl (hE0 (lasts, a) ⟨by show lasts.length ≤ 5; omega, ha0, ha1, hklasts, fun e => ?_⟩)
          obtain ⟨rest, _, _, h3⟩ := hE e
          have := h3.1
          omega
      · have c2 : ¬ i ≤ 4 := of_decide_eq_false c2
        refine ans_jump rfl rfl (hE0 (lasts, a) ⟨by show lasts.length ≤ 5; omega, ha0, ha1, hklasts, fun e => ?_⟩)
        obtain ⟨rest, h1, _, h3⟩ := hE e
        have g := gd_of e.1
        have g0 := g.r
        have g1 := g.t
        have g2 := g.s
        have g3 := g.c
        have h1 := congrArg List.length h1
        rw [List.length_append] at h1
        omega
    · have c : ¬ i < n := of_decide_eq_false c
      refine ans_jump rfl rfl (hE0 (lasts, a) ⟨by show lasts.length ≤ 5; omega, ha0, ha1, hklasts, fun e => endS (hE e) (by rw [hcn e] at c; show ¬ lasts.length < cs.length; omega)⟩)
  case rest3 =>
  clear oc hc hA ha0 ha1
  rintro ⟨lasts, a⟩ ⟨hllasts, ha0, ha1, hklasts, hE⟩
  dsimp only at hllasts ha0 ha1 hklasts hE
  dsimp only
  have hlasts : Ent b j l rs ts xs cs → lasts = cs := fun e => (hE e).1
  have hA : Ent b j l rs ts xs cs → At b a ([]) := fun e => (hE e).2
  clear hE
  simp only [List.cons_append, List.nil_append]
  have keyR := keys_row hkrows
  have keyT := keys_tomb hktombs
  have hok : okD StateT (i0, rows, tombs, lost, ss, lasts, ()) := ok_state (by omega) (by omega) (by omega) (by omega) hkrows hktombs
  refine ans_joinR (fun d : Bool => [B d]) (fun d => (d = true → ¬ Ent b j l rs ts xs cs) ∧ (d = false → Ent b i0 lost rows tombs ss lasts)) ?_ ?_
  · rintro d ⟨h1, h2⟩
    simp only [List.cons_append, List.nil_append]
    refine ans_ite (b := d) rfl (fun c => ?_) (fun c => ?_)
    · exact ans_let rfl (ans_let rfl (ans_let rfl (ans_ret rfl (.inl ⟨rfl, h1 c⟩))))
    · exact ans_let rfl (ans_let rfl (ans_let rfl (ans_ret rfl (.inr ⟨i0, lost, rows, tombs, ss, lasts, rfl, h2 c, hok, fun e => ⟨(hi e).1, (hi e).2, hrows e, htombs e, hss e, hlasts e⟩⟩))))
  · intro J hJ
    refine ans_let rfl (ans_let rfl (ans_ite (b := a != (b.length : Int)) rfl (fun c => ?_) (fun c => ?_)))
    · refine ans_jump rfl rfl (hJ true ⟨fun _ e => ?_, fun h => by cases h⟩)
      have c : a ≠ (b.length : Int) := by simpa using c
      obtain ⟨h1, h2, h3⟩ := hA e
      have h3 := congrArg List.length h3
      simp only [List.length_drop, List.length_nil] at h3
      omega
    simp only [List.cons_append, List.nil_append]
    refine ans_let rfl (ans_call rfl (stateOkS N k i0 lost rows tombs ss lasts hN keyR keyT (by omega) (by omega) (by omega) (by omega)) rfl (ans_let rfl (ans_ite (b := !stateOk i0 lost rows tombs ss lasts) rfl (fun c => ?_) (fun c => ?_))))
    · refine ans_jump rfl rfl (hJ true ⟨fun _ e => ?_, fun h => by cases h⟩)
      have e1 := e.1
      rw [← (hi e).1, ← (hi e).2, ← hrows e, ← htombs e, ← hss e, ← hlasts e] at e1
      rw [e1] at c
      simp at c
    · have c : stateOk i0 lost rows tombs ss lasts = true := by simpa using c
      have g := gd_of c
      simp only [List.cons_append, List.nil_append]
      refine ans_let rfl (ans_call rfl (bytesS N (k + 3) g hN) rfl ?_)
      simp only [List.cons_append, List.nil_append]
      refine ans_let rfl (ans_let rfl (ans_let (ev_neq 9 (enc i0 lost rows tombs ss lasts) b) (ans_jump rfl rfl (hJ (!(kb (enc i0 lost rows tombs ss lasts) == kb b)) ⟨fun h e => ?_, fun h => ⟨c, ?_⟩⟩))))
      · have e1 := e.2
        rw [← (hi e).1, ← (hi e).2, ← hrows e, ← htombs e, ← hss e, ← hlasts e] at e1
        rw [← e1] at h
        simp at h
      · have h : kb (enc i0 lost rows tombs ss lasts) = kb b := by simpa using h
        exact (kb_inj (enc_by g hkrows hktombs) hb h).symm
end Go.Proofs.Ytecleaangfcloab.VtFnExactStateRead
