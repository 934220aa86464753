/- Drawn servers: the log and the whole. Lemmas alone, no statement. -/
import Derived.Test.YtecleaangfcloaaVpDnFnProposes
namespace Go.Proofs.Ytecleaangfcloaa.VtFnProposes
set_option linter.unusedVariables false
set_option linter.unusedSimpArgs false
open Go Go.Vm
theorem log (N k : Nat) (n : Int) (b : List Int) (i h : Int) (hi : Ok b i) (h0 : 0 ≤ n) (hn : n < 8) (hN : big ≤ N) : Ans (Lv N (k + 6) 177 [I n, U b i h]) (fun rs => ∃ (l : List (D ITy)) (i h : Int), rs = [S ITy l, U b i h] ∧ (l.length : Int) = n ∧ (∀ y ∈ l, okI y) ∧ Ok b i) := by
  refine ans_level rfl rfl ?_ (fun rs hq => by obtain ⟨v, i, h, rfl, _⟩ := hq; rfl)
  unfold ir177
  have hb' : 10 < big := by unfold big; omega
  refine ans_loop (ans_jump rfl rfl ?_)
  refine rounds_ans (α := Int × List (D ITy) × Int × Int × Int) (enc := fun a => [I a.1, S ITy a.2.1, I a.2.2.1, S ITy [], S (.int .u8) b, I a.2.2.2.1, I a.2.2.2.2]) (Post := fun _ rs => ∃ (l : List (D ITy)) (i h : Int), rs = [S ITy l, U b i h] ∧ (l.length : Int) = n ∧ (∀ y ∈ l, okI y) ∧ Ok b i) (meas := fun a => (n - a.2.2.1).toNat) (R := fun a => 0 ≤ a.2.2.1 ∧ a.2.2.1 ≤ n ∧ (a.2.1.length : Int) = a.2.2.1 ∧ (∀ y ∈ a.2.1, okI y) ∧ Ok b a.2.2.2.1) ?_ N (1, [], 0, i, h) ⟨by show (0 : Int) ≤ 0; omega, by show (0 : Int) ≤ n; omega, rfl, by intro y hy; simp at hy, hi⟩ (by show (n - (0 : Int)).toNat < N; omega)
  clear hi
  rintro J ⟨t, l, j, i, h⟩ ⟨j0, j1, hl, hx, hi⟩ hJ
  dsimp only at j0 j1 hl hx hi
  simp only [List.cons_append, List.nil_append]
  refine ans_let rfl (ans_ite rfl (fun c => ?_) (fun c => ?_))
  · have c : j < n := of_decide_eq_true c
    simp only [List.cons_append, List.nil_append]
    refine ans_let rfl (ans_callA rfl (below N (k + 3) 4 b i h hi (by omega) (by omega)) ?_)
    rintro _ ⟨x, i, h, rfl, -, hi⟩
    refine ⟨rfl, ?_⟩
    simp only [List.cons_append, List.nil_append]; refine ans_let rfl ?_; refine ans_let rfl ?_; refine ans_let rfl ?_
    refine ans_callA rfl (item N k _ b i h hi) ?_
    rintro _ ⟨y, i, h, rfl, hy, hi⟩
    refine ⟨rfl, ?_⟩
    simp only [List.cons_append, List.nil_append]; refine ans_let rfl ?_
    refine ans_app rfl rfl (show l.length + [y].length < maxRow by show l.length + 1 < 4294967296; omega) ?_
    refine ans_let rfl ?_
    refine ans_jump rfl rfl ?_
    have hw : IntKind.i64.wrap (j + 1) = j + 1 := wrap_id (by omega) (by omega)
    rw [hw]
    refine hJ (_, l ++ [y], j + 1, i, h) ⟨by show 0 ≤ j + 1; omega, by show j + 1 ≤ n; omega, ?_, ?_, hi⟩ (by show (n - (j + 1)).toNat < (n - j).toNat; omega)
    · show ((l ++ [y]).length : Int) = j + 1
      rw [List.length_append]; simp; omega
    · intro z hz
      rcases List.mem_append.1 hz with hz | hz
      · exact hx z hz
      · rw [List.mem_singleton.1 hz]; exact hy
  · have c : ¬ j < n := of_decide_eq_false c
    refine ans_let rfl ?_
    exact ans_ret rfl ⟨l, i, h, rfl, by omega, hx, hi⟩
theorem new4 (N k : Nat) (a s : Int) (h0 : 0 ≤ s) (h1 : s ≤ 5) : Lv N (k + 1) 176 [I a, I s] = some [⟨NTy, (a, 0, -1, [], 0, 0, -1, 0, List.replicate s.toNat false, List.replicate s.toNat 0, List.replicate s.toNat 0, ())⟩] := by
  refine level_den rfl rfl ?_ rfl
  unfold ir176
  have hm : s < maxRow := by show s < 4294967296; omega
  refine den_rep rfl rfl h0 hm (den_rep rfl rfl h0 hm (den_rep rfl rfl h0 hm ?_))
  refine den_let rfl (den_let rfl (den_let rfl (den_let rfl (den_let rfl (den_let rfl (den_let rfl (den_let rfl (den_let rfl (den_ret rfl rfl)))))))))
theorem termAt (N k : Nat) (p : Int) (x : D NTy) (hl : (List.length x.2.2.2.1 : Int) ≤ 8) : Ans (Lv N (k + 1) 178 [I p, ⟨NTy, x⟩]) (fun rs => ∃ t : Int, rs = [I t, ⟨NTy, x⟩]) := by
  refine ans_level rfl rfl ?_ (fun rs hq => by obtain ⟨v, rfl⟩ := hq; rfl)
  unfold ir178
  refine ans_let rfl (ans_ite rfl (fun _ => ans_let rfl (ans_ret rfl ⟨_, rfl⟩)) (fun c => ?_))
  have c : ¬ p < 1 := of_decide_eq_false c
  simp only [List.cons_append, List.nil_append]
  refine ans_let rfl (ans_let rfl (ans_ite rfl (fun _ => ans_let rfl (ans_ret rfl ⟨_, rfl⟩)) (fun c2 => ?_)))
  have c2 : ¬ p > (List.length x.2.2.2.1 : Int) := of_decide_eq_false c2
  simp only [List.cons_append, List.nil_append]; refine ans_let rfl ?_
  have hw : IntKind.i64.wrap (p - 1) = p - 1 := wrap_id (by omega) (by omega)
  have hlt : (IntKind.i64.wrap (p - 1)).toNat < List.length x.2.2.2.1 := by rw [hw]; omega
  refine ans_idx rfl rfl rfl (by rw [hw]; omega) (List.getElem?_eq_getElem hlt) ?_
  refine ans_idx rfl rfl rfl (by rw [hw]; omega) (List.getElem?_eq_getElem hlt) ?_
  refine ans_let rfl ?_; refine ans_let rfl ?_
  exact ans_ret rfl ⟨_, rfl⟩
/-- A drawn server's rows. -/
def Md (s : Int) (x : D NTy) : Prop := (List.length x.2.2.2.1 : Int) ≤ 8 ∧ (∀ y ∈ (show List (D ITy) from x.2.2.2.1), okI y) ∧ (List.length x.2.2.2.2.2.2.2.2.1 : Int) = s ∧ (List.length x.2.2.2.2.2.2.2.2.2.1 : Int) = s ∧ (List.length x.2.2.2.2.2.2.2.2.2.2.1 : Int) = s
def Mb (x : D NTy) : Prop := (List.length x.2.2.2.1 : Int) ≤ 400 ∧ (∀ y ∈ (show List (D ITy) from x.2.2.2.1), okI y) ∧ (List.length x.2.2.2.2.2.2.2.2.1 : Int) ≤ 6
/-- What the ways' meetings hand on: the cursor, eleven dead cells, the server. -/
def enc25 (b : List Int) (a : Int × Int × D NTy) : List Dy := [S (.int .u8) b, I a.1, I a.2.1, I 0, I 0, I 0, S ITy [], I 0, I 0, I 0, I 0, S .bool [], S (.int .i64) [], S (.int .i64) [], I a.2.2.1, I a.2.2.2.1, I a.2.2.2.2.1, S ITy a.2.2.2.2.2.1, I a.2.2.2.2.2.2.1, I a.2.2.2.2.2.2.2.1, I a.2.2.2.2.2.2.2.2.1, I a.2.2.2.2.2.2.2.2.2.1, S .bool a.2.2.2.2.2.2.2.2.2.2.1, S (.int .i64) a.2.2.2.2.2.2.2.2.2.2.2.1, S (.int .i64) a.2.2.2.2.2.2.2.2.2.2.2.2.1]
set_option maxHeartbeats 8000000 in
theorem node (N k : Nat) (s : Int) (b : List Int) (i h : Int) (hi : Ok b i) (h0 : 1 ≤ s) (h1 : s ≤ 5) (hN : big ≤ N) : Ans (Lv N (k + 7) 124 [I s, U b i h]) (fun rs => ∃ (x : D NTy) (i h : Int), rs = [⟨NTy, x⟩, U b i h] ∧ Md s x ∧ Ok b i) := by
  have hb' : 20 < big := by unfold big; omega
  have hsw : IntKind.i64.wrap (s + 1) = s + 1 := wrap_id (by omega) (by omega)
  refine ans_level rfl rfl ?_ (fun rs hq => by obtain ⟨v, i, h, rfl, _⟩ := hq; rfl)
  unfold ir124
  refine ans_let rfl (ans_callA rfl (below N (k + 4) s b i h hi (by omega) (by omega)) ?_)
  rintro _ ⟨a, i, h, rfl, ⟨a0, a1⟩, hi⟩
  refine ⟨rfl, ?_⟩
  simp only [List.cons_append, List.nil_append]
  refine ans_call rfl (new4 N (k + 5) a s (by omega) h1) rfl ?_
  simp only [List.cons_append, List.nil_append]; refine ans_let rfl ?_; refine ans_let rfl ?_
  refine ans_callA rfl (below N (k + 4) 8 b i h hi (by omega) (by omega)) ?_
  rintro _ ⟨g, i, h, rfl, ⟨g0, g1⟩, hi⟩
  refine ⟨rfl, ?_⟩
  have hgw : IntKind.i64.wrap (g + 1) = g + 1 := wrap_id (by omega) (by omega)
  simp only [List.cons_append, List.nil_append]; refine ans_let rfl ?_
  refine ans_callA rfl (log N k g b i h hi g0 (by omega) hN) ?_
  rintro _ ⟨l, i, h, rfl, hl, hx, hi⟩
  refine ⟨rfl, ?_⟩
  simp only [List.cons_append, List.nil_append]; refine ans_let rfl ?_; refine ans_let rfl ?_
  refine ans_callA rfl (termAt N (k + 5) g (a, 0, -1, l, 0, 0, -1, 0, List.replicate s.toNat false, List.replicate s.toNat 0, List.replicate s.toNat 0, ()) (by show (l.length : Int) ≤ 8; omega)) ?_
  rintro _ ⟨t, rfl⟩
  refine ⟨rfl, ?_⟩
  simp only [List.cons_append, List.nil_append]; refine ans_let rfl ?_
  refine ans_callA rfl (below N (k + 4) 3 b i h hi (by omega) (by omega)) ?_
  rintro _ ⟨t2, i, h, rfl, -, hi⟩
  refine ⟨rfl, ?_⟩
  simp only [List.cons_append, List.nil_append]; refine ans_let rfl ?_; refine ans_let rfl ?_; refine ans_let rfl ?_; refine ans_let rfl ?_
  refine ans_callA rfl (below N (k + 4) (IntKind.i64.wrap (g + 1)) b i h hi (by rw [hgw]; omega) (by rw [hgw]; omega)) ?_
  rintro _ ⟨co, i, h, rfl, -, hi⟩
  refine ⟨rfl, ?_⟩
  simp only [List.cons_append, List.nil_append]; refine ans_let rfl ?_; refine ans_let rfl ?_
  refine ans_callA rfl (below N (k + 4) 9 b i h hi (by omega) (by omega)) ?_
  rintro _ ⟨wa, i, h, rfl, -, hi⟩
  refine ⟨rfl, ?_⟩
  simp only [List.cons_append, List.nil_append]; refine ans_let rfl ?_; refine ans_let rfl ?_; refine ans_let rfl ?_
  refine ans_callA rfl (below N (k + 4) (IntKind.i64.wrap (s + 1)) b i h hi (by rw [hsw]; omega) (by rw [hsw]; omega)) ?_
  rintro _ ⟨vo, i, h, rfl, -, hi⟩
  refine ⟨rfl, ?_⟩
  simp only [List.cons_append, List.nil_append]; refine ans_let rfl ?_; refine ans_let rfl ?_; refine ans_let rfl ?_; refine ans_let rfl ?_
  refine ans_callA rfl (below N (k + 4) (IntKind.i64.wrap (s + 1)) b i h hi (by rw [hsw]; omega) (by rw [hsw]; omega)) ?_
  rintro _ ⟨le, i, h, rfl, -, hi⟩
  refine ⟨rfl, ?_⟩
  simp only [List.cons_append, List.nil_append]; refine ans_let rfl ?_; refine ans_let rfl ?_; refine ans_let rfl ?_; simp only [List.cons_append, List.nil_append]
  have hr : ∀ {α : Type} (z : α), ((List.replicate s.toNat z).length : Int) = s := fun z => by rw [List.length_replicate]; omega
  refine ans_ite rfl (fun _ => ?_) (fun _ => ?_)
  · refine ans_let rfl ?_; refine ans_let rfl ?_; refine ans_let rfl ?_; refine ans_let rfl ?_; refine ans_let rfl ?_
    exact ans_ret rfl ⟨(a, IntKind.i64.wrap (t + t2), -1, l, co, 0, IntKind.i64.wrap (le - 1), wa, List.replicate s.toNat false, List.replicate s.toNat 0, List.replicate s.toNat 0, ()), i, h, rfl, ⟨by show (l.length : Int) ≤ 8; omega, hx, hr _, hr _, hr _⟩, hi⟩
  refine ans_joinP (enc25 b) (fun y => Ok b y.1 ∧ Md s y.2.2) ?_ ?_
  · rintro ⟨i, h, x⟩ ⟨hi, hm⟩
    unfold enc25
    simp only [List.cons_append, List.nil_append]
    refine ans_let rfl ?_; refine ans_let rfl ?_; refine ans_let rfl ?_; refine ans_let rfl ?_
    exact ans_ret rfl ⟨x, i, h, rfl, hm, hi⟩
  intro J hJ
  refine ans_let rfl ?_
  refine ans_callA rfl (below N (k + 4) 4 b i h hi (by omega) (by omega)) ?_
  rintro _ ⟨ro, i, h, rfl, -, hi⟩
  refine ⟨rfl, ?_⟩
  simp only [List.cons_append, List.nil_append]; refine ans_let rfl ?_
  refine ans_ite rfl (fun _ => ?_) (fun _ => ?_)
  · refine ans_let rfl ?_; refine ans_let rfl ?_; simp only [List.cons_append, List.nil_append]
    have hlt : a.toNat < (List.replicate s.toNat false).length := by have := hr false; omega
    refine ans_idx rfl rfl rfl a0 (List.getElem?_eq_getElem hlt) ?_
    refine ans_setE rfl rfl rfl rfl a0 hlt ?_
    simp only [List.cons_append, List.nil_append]; refine ans_let rfl ?_
    refine ans_callA rfl (once N (k + 3) 2 b i h hi (by omega) (by omega)) ?_
    rintro _ ⟨on, i, h, rfl, hi⟩
    refine ⟨rfl, ?_⟩
    simp only [List.cons_append, List.nil_append]
    refine ans_ite rfl (fun _ => ?_) (fun _ => ?_)
    · refine ans_let rfl (ans_let rfl ?_)
      refine ans_callA rfl (below N (k + 4) s b i h hi (by omega) (by omega)) ?_
      rintro _ ⟨c, i, h, rfl, ⟨c0, c1⟩, hi⟩
      refine ⟨rfl, ?_⟩
      simp only [List.cons_append, List.nil_append]
      have hlt2 : c.toNat < ((List.replicate s.toNat false).set a.toNat true).length := by have := hr false; rw [List.length_set]; omega
      refine ans_idx rfl rfl rfl c0 (List.getElem?_eq_getElem hlt2) ?_
      refine ans_setE rfl rfl rfl rfl c0 hlt2 ?_
      exact ans_jump rfl rfl (hJ (i, h, (a, IntKind.i64.wrap (t + t2), a, l, co, 1, IntKind.i64.wrap (le - 1), wa, (List.replicate s.toNat false).set a.toNat true |>.set c.toNat true, List.replicate s.toNat 0, List.replicate s.toNat 0, ())) ⟨hi, by show (l.length : Int) ≤ 8; omega, hx, by show ((List.set (List.set _ _ _) _ _).length : Int) = s; rw [List.length_set, List.length_set]; exact hr _, hr _, hr _⟩)
    · exact ans_jump rfl rfl (hJ (i, h, (a, IntKind.i64.wrap (t + t2), a, l, co, 1, IntKind.i64.wrap (le - 1), wa, (List.replicate s.toNat false).set a.toNat true, List.replicate s.toNat 0, List.replicate s.toNat 0, ())) ⟨hi, by show (l.length : Int) ≤ 8; omega, hx, by show ((List.set _ _ _).length : Int) = s; rw [List.length_set]; exact hr _, hr _, hr _⟩)
  refine join_bool (fun tb => ?_) ?_
  · simp only [List.cons_append, List.nil_append]
    refine ans_ite rfl (fun _ => ?_) (fun _ => ?_)
    · refine ans_let rfl ?_; refine ans_let rfl ?_; refine ans_let rfl ?_; simp only [List.cons_append, List.nil_append]
      have hlt : a.toNat < (List.replicate s.toNat false).length := by have := hr false; omega
      refine ans_idx rfl rfl rfl a0 (List.getElem?_eq_getElem hlt) ?_
      refine ans_setE rfl rfl rfl rfl a0 hlt ?_
      simp only [List.cons_append, List.nil_append]
      refine ans_loop (ans_jump rfl rfl ?_)
      refine rounds_ans (α := Int × (Int × Int × D NTy)) (enc := fun a => I a.1 :: enc25 b a.2) (Post := fun _ rs => ∃ (x : D NTy) (i h : Int), rs = [⟨NTy, x⟩, U b i h] ∧ Md s x ∧ Ok b i) (meas := fun a => (s - a.1).toNat) (R := fun a => 0 ≤ a.1 ∧ a.1 ≤ s ∧ Ok b a.2.1 ∧ Md s a.2.2.2) ?_ N (0, i, h, (a, IntKind.i64.wrap (t + t2), a, l, co, 2, a, wa, (List.replicate s.toNat false).set a.toNat true, List.replicate s.toNat 0, List.replicate s.toNat 0, ())) ⟨by show (0 : Int) ≤ 0; omega, by show (0 : Int) ≤ s; omega, hi, by show (l.length : Int) ≤ 8; omega, hx, by show ((List.set _ _ _).length : Int) = s; rw [List.length_set]; exact hr _, hr _, hr _⟩ (by show (s - (0 : Int)).toNat < N; omega)
      rintro K ⟨j, i, h, ⟨x0, x1, x2, xl, x4, x5, x6, x7, xv, xn, xm, xu⟩⟩ ⟨j0, j1, hi, m0, m1, m2, m3, m4⟩ hK
      dsimp only at j0 j1 hi m0 m1 m2 m3 m4
      unfold enc25
      simp only [List.cons_append, List.nil_append]
      refine ans_let rfl (ans_ite rfl (fun c => ?_) (fun c => ?_))
      · have c : j < s := of_decide_eq_true c
        have hjw : IntKind.i64.wrap (j + 1) = j + 1 := wrap_id (by omega) (by omega)
        simp only [List.cons_append, List.nil_append]
        refine ans_joinP (α := Int × Int × List Int × List Int) (fun a => [S (.int .u8) b, I a.1, I a.2.1, S (.int .i64) a.2.2.1, S (.int .i64) a.2.2.2]) (fun a => Ok b a.1 ∧ (a.2.2.1.length : Int) = s ∧ (a.2.2.2.length : Int) = s) ?_ ?_
        · rintro ⟨i, h, xn, xm⟩ ⟨hi, hn, hm⟩
          dsimp only at hi hn hm
          simp only [List.cons_append, List.nil_append]; refine ans_let rfl ?_
          refine ans_jump rfl rfl ?_
          rw [hjw]
          exact hK (j + 1, i, h, (x0, x1, x2, xl, x4, x5, x6, x7, xv, xn, xm, ())) ⟨by show 0 ≤ j + 1; omega, by show j + 1 ≤ s; omega, hi, m0, m1, m2, hn, hm⟩ (by show (s - (j + 1)).toNat < (s - j).toNat; omega)
        · intro L hL
          refine ans_let rfl ?_; refine ans_let rfl ?_; refine ans_let rfl ?_
          refine ans_callA rfl (below N (k + 4) (IntKind.i64.wrap (g + 1)) b i h hi (by rw [hgw]; omega) (by rw [hgw]; omega)) ?_
          rintro _ ⟨c, i, h, rfl, -, hi⟩
          refine ⟨rfl, ?_⟩
          simp only [List.cons_append, List.nil_append]
          have hlm : j.toNat < xm.length := by omega
          have hln : j.toNat < xn.length := by omega
          refine ans_idx rfl rfl rfl j0 (List.getElem?_eq_getElem hlm) ?_
          refine ans_setE rfl rfl rfl rfl j0 hlm ?_
          simp only [List.cons_append, List.nil_append]
          have hlm2 : j.toNat < (xm.set j.toNat c).length := by rw [List.length_set]; exact hlm
          have hgm : (xm.set j.toNat c)[j.toNat]? = some c := List.getElem?_set_self hlm
          refine ans_let rfl ?_; refine ans_let rfl ?_; simp only [List.cons_append, List.nil_append]
          refine ans_idx rfl rfl rfl j0 hgm ?_
          refine ans_idx rfl rfl rfl j0 hgm ?_
          refine ans_let rfl ?_; refine ans_let rfl ?_
          refine ans_idx rfl rfl rfl j0 (List.getElem?_eq_getElem hln) ?_
          refine ans_setE rfl rfl rfl rfl j0 hln ?_
          simp only [List.cons_append, List.nil_append]; refine ans_let rfl ?_
          refine ans_callA rfl (once N (k + 3) 3 b i h hi (by omega) (by omega)) ?_
          rintro _ ⟨on, i, h, rfl, hi⟩
          refine ⟨rfl, ?_⟩
          simp only [List.cons_append, List.nil_append]
          refine ans_ite rfl (fun _ => ?_) (fun _ => ?_)
          · refine ans_let rfl ?_; refine ans_let rfl ?_; refine ans_let rfl ?_
            refine ans_callA rfl (below N (k + 4) (IntKind.i64.wrap (g + 1)) b i h hi (by rw [hgw]; omega) (by rw [hgw]; omega)) ?_
            rintro _ ⟨c2, i, h, rfl, -, hi⟩
            refine ⟨rfl, ?_⟩
            simp only [List.cons_append, List.nil_append]; refine ans_let rfl ?_
            have hln2 : ∀ z, j.toNat < (xn.set j.toNat z).length := fun z => by rw [List.length_set]; exact hln
            refine ans_idx rfl rfl rfl j0 (List.getElem?_eq_getElem (hln2 _)) ?_
            refine ans_setE rfl rfl rfl rfl j0 (hln2 _) ?_
            exact ans_jump rfl rfl (hL (i, h, (xn.set j.toNat (IntKind.i64.wrap (c + 1))).set j.toNat (IntKind.i64.wrap (1 + c2)), xm.set j.toNat c) ⟨hi, by show ((List.set (List.set _ _ _) _ _).length : Int) = s; rw [List.length_set, List.length_set]; exact m3, by show ((List.set _ _ _).length : Int) = s; rw [List.length_set]; exact m4⟩)
          · exact ans_jump rfl rfl (hL (i, h, xn.set j.toNat (IntKind.i64.wrap (c + 1)), xm.set j.toNat c) ⟨hi, by show ((List.set _ _ _).length : Int) = s; rw [List.length_set]; exact m3, by show ((List.set _ _ _).length : Int) = s; rw [List.length_set]; exact m4⟩)
      · exact ans_jump rfl rfl (hJ (i, h, (x0, x1, x2, xl, x4, x5, x6, x7, xv, xn, xm, ())) ⟨hi, m0, m1, m2, m3, m4⟩)
    · exact ans_jump rfl rfl (hJ (i, h, (a, IntKind.i64.wrap (t + t2), IntKind.i64.wrap (vo - 1), l, co, 0, IntKind.i64.wrap (le - 1), wa, List.replicate s.toNat false, List.replicate s.toNat 0, List.replicate s.toNat 0, ())) ⟨hi, by show (l.length : Int) ≤ 8; omega, hx, hr _, hr _, hr _⟩)
  · intro K hK
    refine ans_let rfl ?_
    refine ans_ite rfl (fun _ => ans_jump rfl rfl (hK _)) (fun _ => ?_)
    refine ans_let rfl ?_
    exact ans_jump rfl rfl (hK _)
end Go.Proofs.Ytecleaangfcloaa.VtFnProposes
