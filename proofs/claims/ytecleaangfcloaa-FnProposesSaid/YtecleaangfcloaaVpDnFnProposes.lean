/- Drawn servers: every draw answers with a Node of short rows. Lemmas alone, no statement. -/
import Derived.Test.YtecleaangfcloaaVpNdFnProposes
import Derived.Test.YtecleaangfcloaaVpDrFnProposes
namespace Go.Proofs.Ytecleaangfcloaa.VtFnProposes
set_option linter.unusedVariables false
set_option linter.unusedSimpArgs false
open Go Go.Vm
section
variable {F : Fns} {N : Nat} {ρ : List Dy} {Ls : List (List Dy → Option (List Dy))} {Q : List Dy → Prop}
theorem ans_app {a b : A} {k : IR} {e : Ty} {l m : List (D e)} (ha : evA ρ a = some ⟨.sl e, l⟩) (hb : evA ρ b = some ⟨.sl e, m⟩) (hl : l.length + m.length < maxRow)
    (hk : Ans (den F N k (ρ ++ [⟨.sl e, l ++ m⟩]) Ls) Q) : Ans (den F N (.letE ⟨.app e, [a, b]⟩ k) ρ Ls) Q := by
  obtain ⟨rs, h1, h2⟩ := hk; exact ⟨rs, den_app ha hb hl h1, h2⟩
theorem ans_setE {m : Nat} {a b c : A} {k : IR} {e : Ty} {l : List (D e)} {q : IntKind} {n : Int} {z : D e} (ha : evA ρ a = some ⟨.sl e, l⟩) (hb : evA ρ b = some ⟨.int q, n⟩) (hc : evA ρ c = some ⟨e, z⟩) (hm : e.n = m) (h0 : 0 ≤ n) (hl : n.toNat < l.length)
    (hk : Ans (den F N k (ρ ++ [⟨.sl e, l.set n.toNat z⟩]) Ls) Q) : Ans (den F N (.letE ⟨.setE m, [a, b, c]⟩ k) ρ Ls) Q := by
  obtain ⟨rs, h1, h2⟩ := hk; exact ⟨rs, den_setE ha hb hc hm h0 hl h1, h2⟩
theorem ans_rep {a b : A} {k : IR} {e : Ty} {q : IntKind} {n : Int} {y : D e} (ha : evA ρ a = some ⟨.int q, n⟩) (hb : evA ρ b = some ⟨e, y⟩) (h0 : 0 ≤ n) (hl : n < maxRow)
    (hk : Ans (den F N k (ρ ++ [⟨.sl e, List.replicate n.toNat y⟩]) Ls) Q) : Ans (den F N (.letE ⟨.rep e, [a, b]⟩ k) ρ Ls) Q := by
  obtain ⟨rs, h1, h2⟩ := hk; exact ⟨rs, den_rep ha hb h0 hl h1, h2⟩
theorem ans_joinP {α : Type} {body main : IR} (enc : α → List Dy) (P : α → Prop) (hb : ∀ a, P a → Ans (den F N body (ρ ++ enc a) (Ls ++ [fun _ => none])) Q) (hm : ∀ J : Lb, (∀ a, P a → Ans (J (enc a)) Q) → Ans (den F N main ρ (Ls ++ [J])) Q) : Ans (den F N (.label false body main) ρ Ls) Q :=
  ans_join (hm _ hb)
end
section
variable {F : Fns} {N : Nat} {ρ : List Dy} {Ls : List (List Dy → Option (List Dy))} {Q : List Dy → Prop}
theorem ans_bytes {a : A} {k : IR} {s : ByteArray} (ha : evA ρ a = some ⟨.str, s⟩) (hl : s.size < maxRow)
    (hk : Ans (den F N k (ρ ++ [⟨.sl (.int .u8), bytesOf s⟩]) Ls) Q) : Ans (den F N (.letE ⟨.bytes, [a]⟩ k) ρ Ls) Q := by
  refine ans_let (d := ⟨.sl (.int .u8), bytesOf s⟩) ?_ hk
  simp only [ev, evAs, ha, evX]
  exact if_pos hl
end
/-- Few: what is drawn is short. -/
def few : Nat := 1000
theorem few_big {n : Nat} (h : n < few) : n < big := Nat.lt_trans h (by decide)
theorem key (N k : Nat) (b : List Int) (i h : Int) (hi : Ok b i) : Ans (Lv N (k + 3) 201 [U b i h]) (fun rs => ∃ (v : List Int) (i h : Int), rs = [S (.int .u8) v, U b i h] ∧ v.length < few ∧ Ok b i) := by
  refine ans_level rfl rfl ?_ (fun rs hq => by obtain ⟨v, i, h, rfl, _⟩ := hq; rfl)
  unfold ir201
  refine ans_let rfl (ans_let rfl (ans_callA rfl (below N k 5 b i h hi (by omega) (by omega)) ?_))
  rintro _ ⟨x, i', h', rfl, ⟨x0, x1⟩, hi'⟩
  refine ⟨rfl, ?_⟩
  simp only [List.cons_append, List.nil_append]
  obtain rfl | rfl | rfl | rfl | rfl : x = 0 ∨ x = 1 ∨ x = 2 ∨ x = 3 ∨ x = 4 := by omega
  all_goals
    refine ans_idx rfl rfl rfl (by omega) rfl ?_
    refine ans_idx rfl rfl rfl (by omega) rfl ?_
    refine ans_let rfl ?_
    refine ans_bytes rfl (by decide) ?_
    refine ans_let rfl ?_
    refine ans_ret rfl ⟨_, _, _, rfl, by decide, hi'⟩
theorem val (N k : Nat) (b : List Int) (i h : Int) (hi : Ok b i) : Ans (Lv N (k + 3) 200 [U b i h]) (fun rs => ∃ (v : List Int) (i h : Int), rs = [S (.int .u8) v, U b i h] ∧ v.length < few ∧ Ok b i) := by
  refine ans_level rfl rfl ?_ (fun rs hq => by obtain ⟨v, i, h, rfl, _⟩ := hq; rfl)
  unfold ir200
  refine ans_let rfl (ans_let rfl (ans_callA rfl (below N k 5 b i h hi (by omega) (by omega)) ?_))
  rintro _ ⟨x, i', h', rfl, ⟨x0, x1⟩, hi'⟩
  refine ⟨rfl, ?_⟩
  simp only [List.cons_append, List.nil_append]
  obtain rfl | rfl | rfl | rfl | rfl : x = 0 ∨ x = 1 ∨ x = 2 ∨ x = 3 ∨ x = 4 := by omega
  all_goals
    refine ans_idx rfl rfl rfl (by omega) rfl ?_
    refine ans_idx rfl rfl rfl (by omega) rfl ?_
    refine ans_let rfl ?_
    refine ans_bytes rfl (by decide) ?_
    refine ans_let rfl ?_
    refine ans_ret rfl ⟨_, _, _, rfl, by decide, hi'⟩
theorem join_bool {F : Fns} {N : Nat} {ρ : List Dy} {Ls : List (List Dy → Option (List Dy))} {Q : List Dy → Prop} {body main : IR} (hb : ∀ t : Bool, Ans (den F N body (ρ ++ [B t]) (Ls ++ [fun _ => none])) Q) (hm : ∀ J : Lb, (∀ t : Bool, Ans (J [B t]) Q) → Ans (den F N main ρ (Ls ++ [J])) Q) : Ans (den F N (.label false body main) ρ Ls) Q :=
  ans_joinP (α := Bool) (fun t => [B t]) (fun _ => True) (fun a _ => hb a) (fun J hJ => hm J (fun t => hJ t trivial))
set_option maxHeartbeats 4000000 in
theorem op (N k : Nat) (z : Int) (b : List Int) (i h : Int) (hi : Ok b i) (hz : 0 < z) (hz' : z < 200) : Ans (Lv N (k + 4) 179 [I z, U b i h]) (fun rs => ∃ (x : D OTy) (i h : Int), rs = [⟨OTy, x⟩, U b i h] ∧ List.length x.2.1 < few ∧ List.length x.2.2.1 < few ∧ Ok b i) := by
  have hzw : IntKind.i64.wrap (z + 1) = z + 1 := wrap_id (by omega) (by omega)
  refine ans_level rfl rfl ?_ (fun rs hq => by obtain ⟨v, i, h, rfl, _⟩ := hq; rfl)
  unfold ir179
  refine ans_let rfl (ans_let rfl (ans_callA rfl (pickInt N k _ b i h hi (by decide) (by decide)) ?_))
  rintro _ ⟨q, i, h, rfl, -, hi⟩
  refine ⟨rfl, ?_⟩
  simp only [List.cons_append, List.nil_append]
  refine ans_let rfl ?_; refine ans_let rfl ?_; refine ans_let rfl ?_; simp only [List.cons_append, List.nil_append]
  refine ans_joinP (α := Int × Int × List Int) (fun a => [S (.int .u8) b, I a.1, I a.2.1, S (.int .u8) a.2.2]) (fun a => Ok b a.1 ∧ a.2.2.length < few) ?_ ?_
  · rintro ⟨i, h, v⟩ ⟨hi, hv⟩
    dsimp only at hi hv
    simp only [List.cons_append, List.nil_append]
    refine ans_joinP (α := Int × Int × List Int) (fun a => [S (.int .u8) b, I a.1, I a.2.1, S (.int .u8) a.2.2]) (fun a => Ok b a.1 ∧ a.2.2.length < few) ?_ ?_
    · rintro ⟨i, h, w⟩ ⟨hi, hw⟩
      dsimp only at hi hw
      simp only [List.cons_append, List.nil_append]
      refine ans_joinP (α := Int × Int × Int) (fun a => [S (.int .u8) b, I a.1, I a.2.1, I a.2.2]) (fun a => Ok b a.1) ?_ ?_
      · rintro ⟨i, h, n⟩ hi
        dsimp only at hi
        simp only [List.cons_append, List.nil_append]
        refine ans_let rfl ?_; refine ans_let rfl ?_; refine ans_let rfl ?_; refine ans_let rfl ?_
        exact ans_ret rfl ⟨(q, w, v, n, ()), i, h, rfl, hw, hv, hi⟩
      · intro J hJ
        refine ans_let rfl ?_
        refine ans_ite rfl (fun _ => ?_) (fun _ => ?_)
        · refine ans_let rfl (ans_callA rfl (below N (k + 1) 2 b i h hi (by omega) (by omega)) ?_)
          rintro _ ⟨x, i, h, rfl, -, hi⟩
          refine ⟨rfl, ?_⟩
          simp only [List.cons_append, List.nil_append]; refine ans_let rfl ?_
          exact ans_jump rfl rfl (hJ (i, h, x) hi)
        · refine ans_let rfl ?_
          refine ans_ite rfl (fun _ => ?_) (fun _ => ?_)
          · refine ans_let rfl ?_; refine ans_let rfl ?_
            refine ans_callA rfl (below N (k + 1) (IntKind.i64.wrap (z + 1)) b i h hi (by rw [hzw]; omega) (by rw [hzw]; omega)) ?_
            rintro _ ⟨x, i, h, rfl, -, hi⟩
            refine ⟨rfl, ?_⟩
            simp only [List.cons_append, List.nil_append]; refine ans_let rfl ?_
            refine ans_callA rfl (below N (k + 1) 2 b i h hi (by omega) (by omega)) ?_
            rintro _ ⟨y, i, h, rfl, -, hi⟩
            refine ⟨rfl, ?_⟩
            simp only [List.cons_append, List.nil_append]; refine ans_let rfl ?_; refine ans_let rfl ?_
            exact ans_jump rfl rfl (hJ (i, h, _) hi)
          · refine join_bool (fun t => ?_) ?_
            · simp only [List.cons_append, List.nil_append]
              refine ans_ite rfl (fun _ => ?_) (fun _ => ?_)
              · refine ans_let rfl ?_
                refine ans_callA rfl (below N (k + 1) 4 b i h hi (by omega) (by omega)) ?_
                rintro _ ⟨x, i, h, rfl, -, hi⟩
                refine ⟨rfl, ?_⟩
                simp only [List.cons_append, List.nil_append]; refine ans_let rfl ?_; refine ans_let rfl ?_; refine ans_let rfl ?_
                refine ans_ite rfl (fun _ => ?_) (fun _ => ?_)
                · refine ans_let rfl ?_
                  refine ans_callA rfl (below N (k + 1) z b i h hi (by omega) (by omega)) ?_
                  rintro _ ⟨x, i, h, rfl, -, hi⟩
                  refine ⟨rfl, ?_⟩
                  simp only [List.cons_append, List.nil_append]; refine ans_let rfl ?_; refine ans_let rfl ?_
                  exact ans_jump rfl rfl (hJ (i, h, _) hi)
                · exact ans_jump rfl rfl (hJ (i, h, _) hi)
              · exact ans_jump rfl rfl (hJ (i, h, _) hi)
            · intro K hK
              refine ans_let rfl ?_
              refine ans_ite rfl (fun _ => ans_jump rfl rfl (hK _)) (fun _ => ?_)
              refine ans_let rfl ?_
              refine ans_ite rfl (fun _ => ans_jump rfl rfl (hK _)) (fun _ => ?_)
              refine ans_let rfl ?_
              exact ans_jump rfl rfl (hK _)
    · intro J hJ
      refine join_bool (fun t => ?_) ?_
      · simp only [List.cons_append, List.nil_append]
        refine ans_ite rfl (fun _ => ?_) (fun _ => ?_)
        · refine ans_let rfl ?_
          refine ans_callA rfl (key N k b i h hi) ?_
          rintro _ ⟨w, i, h, rfl, hw, hi⟩
          refine ⟨rfl, ?_⟩
          simp only [List.cons_append, List.nil_append]; refine ans_let rfl ?_
          exact ans_jump rfl rfl (hJ (i, h, w) ⟨hi, hw⟩)
        · exact ans_jump rfl rfl (hJ (i, h, []) ⟨hi, by show (0 : Nat) < few; decide⟩)
      · intro K hK
        refine ans_let rfl ?_
        refine ans_ite rfl (fun _ => ?_) (fun _ => ans_jump rfl rfl (hK _))
        refine ans_let rfl ?_
        refine ans_ite rfl (fun _ => ?_) (fun _ => ans_jump rfl rfl (hK _))
        refine ans_let rfl ?_
        exact ans_jump rfl rfl (hK _)
  · intro J hJ
    refine join_bool (fun t => ?_) ?_
    · simp only [List.cons_append, List.nil_append]
      refine ans_ite rfl (fun _ => ?_) (fun _ => ?_)
      · refine ans_let rfl ?_
        refine ans_callA rfl (val N k b i h hi) ?_
        rintro _ ⟨w, i, h, rfl, hw, hi⟩
        refine ⟨rfl, ?_⟩
        simp only [List.cons_append, List.nil_append]; refine ans_let rfl ?_
        exact ans_jump rfl rfl (hJ (i, h, w) ⟨hi, hw⟩)
      · exact ans_jump rfl rfl (hJ (i, h, []) ⟨hi, by show (0 : Nat) < few; decide⟩)
    · intro K hK
      refine ans_let rfl ?_
      refine ans_ite rfl (fun _ => ans_jump rfl rfl (hK _)) (fun _ => ?_)
      refine ans_let rfl ?_
      refine ans_ite rfl (fun _ => ans_jump rfl rfl (hK _)) (fun _ => ?_)
      refine ans_let rfl ?_
      exact ans_jump rfl rfl (hK _)
theorem item (N k : Nat) (t : Int) (b : List Int) (i h : Int) (hi : Ok b i) : Ans (Lv N (k + 5) 125 [I t, U b i h]) (fun rs => ∃ (x : D ITy) (i h : Int), rs = [⟨ITy, x⟩, U b i h] ∧ okI x ∧ Ok b i) := by
  refine ans_level rfl rfl ?_ (fun rs hq => by obtain ⟨v, i, h, rfl, _⟩ := hq; rfl)
  unfold ir125
  refine ans_let rfl (ans_callA rfl (below N (k + 2) 3 b i h hi (by omega) (by omega)) ?_)
  rintro _ ⟨c, i, h, rfl, -, hi⟩
  refine ⟨rfl, ?_⟩
  simp only [List.cons_append, List.nil_append]
  refine ans_let rfl (ans_callA rfl (below N (k + 2) 5 b i h hi (by omega) (by omega)) ?_)
  rintro _ ⟨r, i, h, rfl, -, hi⟩
  refine ⟨rfl, ?_⟩
  simp only [List.cons_append, List.nil_append]; refine ans_let rfl ?_
  refine ans_let rfl (ans_callA rfl (op N k 5 b i h hi (by omega) (by omega)) ?_)
  rintro _ ⟨⟨o1, o2, o3, o4, o5⟩, i, h, rfl, h2, h3, hi⟩
  refine ⟨rfl, ?_⟩
  simp only [List.cons_append, List.nil_append]; refine ans_let rfl ?_; refine ans_let rfl ?_; refine ans_let rfl ?_; refine ans_let rfl ?_; refine ans_let rfl ?_; refine ans_let rfl ?_; refine ans_let rfl ?_; refine ans_let rfl ?_; refine ans_let rfl ?_; simp only [List.cons_append, List.nil_append]
  refine ans_callA rfl (once N (k + 1) 5 b i h hi (by omega) (by omega)) ?_
  rintro _ ⟨g, i, h, rfl, hi⟩
  refine ⟨rfl, ?_⟩
  simp only [List.cons_append, List.nil_append]
  refine ans_ite rfl (fun _ => ?_) (fun _ => ?_)
  · refine ans_let rfl ?_; refine ans_let rfl ?_; refine ans_let rfl ?_; refine ans_let rfl ?_; refine ans_let rfl ?_; refine ans_let rfl ?_; refine ans_let rfl ?_
    exact ans_ret rfl ⟨(t, -1, 0, 0, [], [], 0, ()), i, h, rfl, ⟨by show (0 : Nat) < big; decide, by show (0 : Nat) < big; decide⟩, hi⟩
  · refine ans_let rfl ?_; refine ans_let rfl ?_; refine ans_let rfl ?_; refine ans_let rfl ?_
    exact ans_ret rfl ⟨(t, c, IntKind.i64.wrap (1 + r), o1, o2, o3, o4, ()), i, h, rfl, ⟨few_big h2, few_big h3⟩, hi⟩
end Go.Proofs.Ytecleaangfcloaa.VtFnProposes
