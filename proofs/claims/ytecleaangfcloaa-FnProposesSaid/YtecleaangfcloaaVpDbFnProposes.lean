/- Drawn servers, some of them bent. Lemmas alone, no statement. -/
import Derived.Test.YtecleaangfcloaaVpDmFnProposes
namespace Go.Proofs.Ytecleaangfcloaa.VtFnProposes
set_option linter.unusedVariables false
set_option linter.unusedSimpArgs false
open Go Go.Vm
theorem ev_quo {x n : Int} (h : n ≠ 0) : evX (.bin .quo 3) [I x, I n] = some (I (IntKind.i64.wrap (x.tdiv n))) := by
  simp only [evX, valA]
  unfold binOp
  simp only [Op.intDiv, h, pureOf]
  simp only [if_false]
  rfl
set_option maxHeartbeats 8000000 in
theorem bent (N k : Nat) (s : Int) (b : List Int) (i h : Int) (hi : Ok b i) (h0 : 1 ≤ s) (h1 : s ≤ 5) (hN : big ≤ N) : Ans (Lv N (k + 8) 65 [I s, U b i h]) (fun rs => ∃ (x : D NTy) (i h : Int), rs = [⟨NTy, x⟩, U b i h] ∧ Mb x ∧ Ok b i) := by
  have hb' : 500 < big := by unfold big; omega
  refine ans_level rfl rfl ?_ (fun rs hq => by obtain ⟨v, i, h, rfl, _⟩ := hq; rfl)
  unfold ir65
  refine ans_let rfl (ans_callA rfl (node N k s b i h hi h0 h1 hN) ?_)
  rintro _ ⟨⟨x0, x1, x2, xl, x4, x5, x6, x7, xv, xn, xm, xu⟩, i, h, rfl, ⟨m0, m1, m2, m3, m4⟩, hi⟩
  refine ⟨rfl, ?_⟩
  have m0 : (xl.length : Int) ≤ 8 := m0
  have m1 : ∀ y ∈ xl, okI y := m1
  have m2 : (xv.length : Int) = s := m2
  have m3 : (xn.length : Int) = s := m3
  have m4 : (xm.length : Int) = s := m4
  simp only [List.cons_append, List.nil_append]; refine ans_let rfl ?_; refine ans_let rfl ?_
  refine ans_callA rfl (once N (k + 4) 8 b i h hi (by omega) (by omega)) ?_
  rintro _ ⟨on, i, h, rfl, hi⟩
  refine ⟨rfl, ?_⟩
  simp only [List.cons_append, List.nil_append]; refine ans_let rfl ?_
  refine ans_ite rfl (fun _ => ?_) (fun _ => ?_)
  · refine ans_let rfl ?_; refine ans_let rfl ?_; refine ans_let rfl ?_; refine ans_let rfl ?_
    exact ans_ret rfl ⟨(x0, x1, x2, xl, x4, x5, x6, x7, xv, xn, xm, ()), i, h, rfl, ⟨by show (xl.length : Int) ≤ 400; omega, m1, by show (xv.length : Int) ≤ 6; omega⟩, hi⟩
  refine ans_joinP (enc25 b) (fun y => Ok b y.1 ∧ Mb y.2.2) ?_ ?_
  · rintro ⟨i, h, x⟩ ⟨hi, hm⟩
    unfold enc25
    simp only [List.cons_append, List.nil_append]
    refine ans_let rfl ?_; refine ans_let rfl ?_; refine ans_let rfl ?_; refine ans_let rfl ?_
    exact ans_ret rfl ⟨x, i, h, rfl, hm, hi⟩
  intro J hJ
  have hl : (xl.length : Int) ≤ 400 := by omega
  have hv : (xv.length : Int) ≤ 6 := by omega
  refine ans_let rfl ?_
  refine ans_callA rfl (below N (k + 5) 10 b i h hi (by omega) (by omega)) ?_
  rintro _ ⟨ca, i, h, rfl, -, hi⟩
  refine ⟨rfl, ?_⟩
  simp only [List.cons_append, List.nil_append]; refine ans_let rfl ?_
  refine ans_ite rfl (fun _ => ?_) (fun _ => ?_)
  · refine ans_let rfl ?_; refine ans_let rfl ?_
    refine ans_callA rfl (pickInt N (k + 4) [-1, s, 0] b i h hi (by show 0 < 3; omega) (by show 3 ≤ 256; omega)) ?_
    rintro _ ⟨q, i, h, rfl, -, hi⟩
    refine ⟨rfl, ?_⟩
    simp only [List.cons_append, List.nil_append]; refine ans_let rfl ?_
    exact ans_jump rfl rfl (hJ (i, h, (q, x1, x2, xl, x4, x5, x6, x7, xv, xn, xm, ())) ⟨hi, hl, m1, hv⟩)
  refine ans_let rfl ?_
  refine ans_ite rfl (fun _ => ?_) (fun _ => ?_)
  · refine ans_let rfl ?_; refine ans_let rfl ?_
    refine ans_callA rfl (pickInt N (k + 4) [-1, 0, 100000, 100001] b i h hi (by show 0 < 4; omega) (by show 4 ≤ 256; omega)) ?_
    rintro _ ⟨q, i, h, rfl, -, hi⟩
    refine ⟨rfl, ?_⟩
    simp only [List.cons_append, List.nil_append]; refine ans_let rfl ?_
    exact ans_jump rfl rfl (hJ (i, h, (x0, q, x2, xl, x4, x5, x6, x7, xv, xn, xm, ())) ⟨hi, hl, m1, hv⟩)
  refine ans_let rfl ?_
  refine ans_ite rfl (fun _ => ?_) (fun _ => ?_)
  · refine ans_let rfl ?_; refine ans_let rfl ?_
    refine ans_callA rfl (pickInt N (k + 4) [-2, s, 0] b i h hi (by show 0 < 3; omega) (by show 3 ≤ 256; omega)) ?_
    rintro _ ⟨q, i, h, rfl, -, hi⟩
    refine ⟨rfl, ?_⟩
    simp only [List.cons_append, List.nil_append]; refine ans_let rfl ?_
    exact ans_jump rfl rfl (hJ (i, h, (x0, x1, q, xl, x4, x5, x6, x7, xv, xn, xm, ())) ⟨hi, hl, m1, hv⟩)
  refine ans_let rfl ?_
  refine ans_ite rfl (fun _ => ?_) (fun _ => ?_)
  · refine ans_let rfl ?_; refine ans_let rfl ?_; refine ans_let rfl ?_; refine ans_let rfl ?_
    refine ans_callA rfl (pickInt N (k + 4) [-1, IntKind.i64.wrap ((xl.length : Int) + 1)] b i h hi (by show 0 < 2; omega) (by show 2 ≤ 256; omega)) ?_
    rintro _ ⟨q, i, h, rfl, -, hi⟩
    refine ⟨rfl, ?_⟩
    simp only [List.cons_append, List.nil_append]; refine ans_let rfl ?_
    exact ans_jump rfl rfl (hJ (i, h, (x0, x1, x2, xl, q, x5, x6, x7, xv, xn, xm, ())) ⟨hi, hl, m1, hv⟩)
  refine ans_let rfl ?_
  refine ans_ite rfl (fun _ => ?_) (fun _ => ?_)
  · refine ans_let rfl ?_
    refine ans_callA rfl (below N (k + 5) 5 b i h hi (by omega) (by omega)) ?_
    rintro _ ⟨q, i, h, rfl, -, hi⟩
    refine ⟨rfl, ?_⟩
    simp only [List.cons_append, List.nil_append]; refine ans_let rfl ?_; refine ans_let rfl ?_
    exact ans_jump rfl rfl (hJ (i, h, (x0, x1, x2, xl, x4, IntKind.i64.wrap (q - 1), x6, x7, xv, xn, xm, ())) ⟨hi, hl, m1, hv⟩)
  refine ans_let rfl ?_
  refine ans_ite rfl (fun _ => ?_) (fun _ => ?_)
  · refine ans_let rfl ?_; refine ans_let rfl ?_
    refine ans_callA rfl (pickInt N (k + 4) [-1, 20, 21] b i h hi (by show 0 < 3; omega) (by show 3 ≤ 256; omega)) ?_
    rintro _ ⟨q, i, h, rfl, -, hi⟩
    refine ⟨rfl, ?_⟩
    simp only [List.cons_append, List.nil_append]; refine ans_let rfl ?_
    exact ans_jump rfl rfl (hJ (i, h, (x0, x1, x2, xl, x4, x5, x6, q, xv, xn, xm, ())) ⟨hi, hl, m1, hv⟩)
  refine ans_let rfl ?_
  refine ans_ite rfl (fun _ => ?_) (fun _ => ?_)
  · refine ans_let rfl (ans_let rfl ?_)
    refine ans_app rfl rfl (show xv.length + [true].length < maxRow by show xv.length + 1 < 4294967296; omega) ?_
    refine ans_let rfl ?_
    simp only [List.cons_append, List.nil_append]
    exact ans_jump rfl rfl (hJ (i, h, (x0, x1, x2, xl, x4, x5, x6, x7, xv ++ [true], xn, xm, ())) ⟨hi, hl, m1, by show ((xv ++ [true]).length : Int) ≤ 6; rw [List.length_append]; simp; omega⟩)
  refine ans_let rfl ?_
  refine ans_ite rfl (fun _ => ?_) (fun _ => ?_)
  · refine ans_let rfl ?_; refine ans_let rfl ?_; refine ans_let rfl ?_
    refine ans_callA rfl (pickInt N (k + 4) [0, -1, 1, 99] b i h hi (by show 0 < 4; omega) (by show 4 ≤ 256; omega)) ?_
    rintro _ ⟨q, i, h, rfl, -, hi⟩
    refine ⟨rfl, ?_⟩
    simp only [List.cons_append, List.nil_append]
    have hlt : (0 : Int).toNat < xn.length := by show 0 < xn.length; omega
    refine ans_idx rfl rfl rfl (by omega) (List.getElem?_eq_getElem hlt) ?_
    refine ans_setE rfl rfl rfl rfl (by omega) hlt ?_
    exact ans_jump rfl rfl (hJ (i, h, (x0, x1, x2, xl, x4, x5, x6, x7, xv, xn.set (0 : Int).toNat q, xm, ())) ⟨hi, hl, m1, hv⟩)
  refine ans_let rfl ?_
  refine ans_ite rfl (fun _ => ?_) (fun _ => ?_)
  · refine ans_let rfl ?_; refine ans_let rfl ?_
    refine ans_callA rfl (item N (k + 2) 1 b i h hi) ?_
    rintro _ ⟨y, i, h, rfl, hy, hi⟩
    refine ⟨rfl, ?_⟩
    simp only [List.cons_append, List.nil_append]; refine ans_let rfl ?_
    refine ans_app rfl rfl (show xl.length + [y].length < maxRow by show xl.length + 1 < 4294967296; omega) ?_
    refine ans_let rfl ?_
    refine ans_jump rfl rfl (hJ (i, h, (x0, x1, x2, xl ++ [y], x4, x5, x6, x7, xv, xn, xm, ())) ⟨hi, by show ((xl ++ [y]).length : Int) ≤ 400; rw [List.length_append]; simp; omega, ?_, hv⟩)
    intro z hz
    rcases List.mem_append.1 hz with hz | hz
    · exact m1 z hz
    · rw [List.mem_singleton.1 hz]; exact hy
  refine ans_loop (ans_jump rfl rfl ?_)
  refine rounds_ans (α := Int × Int × D NTy) (enc := enc25 b) (Post := fun _ rs => ∃ (x : D NTy) (i h : Int), rs = [⟨NTy, x⟩, U b i h] ∧ Mb x ∧ Ok b i) (meas := fun a => (400 - (List.length a.2.2.2.2.2.1 : Int)).toNat) (R := fun a => Ok b a.1 ∧ Mb a.2.2) ?_ N (i, h, (x0, x1, x2, xl, x4, x5, x6, x7, xv, xn, xm, ())) ⟨hi, hl, m1, hv⟩ (by show (400 - (xl.length : Int)).toNat < N; omega)
  clear hi m0 m1 m2 m3 m4 hl hv
  rintro K ⟨i, h, ⟨x0, x1, x2, xl, x4, x5, x6, x7, xv, xn, xm, xu⟩⟩ ⟨hi, hl, m1, hv⟩ hK
  have hi : Ok b i := hi
  have hl : (xl.length : Int) ≤ 400 := hl
  have m1 : ∀ y ∈ xl, okI y := m1
  have hv : (xv.length : Int) ≤ 6 := hv
  unfold enc25
  simp only [List.cons_append, List.nil_append]; refine ans_let rfl ?_; refine ans_let rfl ?_
  refine ans_callA rfl (below N (k + 5) 2 b i h hi (by omega) (by omega)) ?_
  rintro _ ⟨q, i, h, rfl, ⟨q0, q1⟩, hi⟩
  refine ⟨rfl, ?_⟩
  simp only [List.cons_append, List.nil_append]; refine ans_let rfl ?_
  generalize hz1 : IntKind.i64.wrap (q * 400) = z1
  refine ans_let (ev_quo (x := z1) (n := 2) (by decide)) ?_
  generalize hz2 : IntKind.i64.wrap (z1.tdiv 2) = z2
  refine ans_let rfl ?_
  generalize hz3 : IntKind.i64.wrap (200 + z2) = z3
  refine ans_let rfl ?_
  refine ans_ite rfl (fun c => ?_) (fun c => ?_)
  · have c : (xl.length : Int) < z3 := of_decide_eq_true c
    have hlt : (xl.length : Int) < 400 := by
      subst hz3 hz2 hz1
      have hz : ∀ z : Int, 0 ≤ z → z ≤ 1000 → IntKind.i64.wrap z = z := fun z z0 z1 => wrap_id (by omega) (by omega)
      rw [hz (q * 400) (by omega) (by omega), Int.tdiv_eq_ediv_of_nonneg (by omega), hz (q * 400 / 2) (by omega) (by omega), hz (200 + q * 400 / 2) (by omega) (by omega)] at c
      omega
    clear c hz3 hz2 hz1
    refine ans_let rfl ?_; refine ans_let rfl ?_; refine ans_let rfl ?_; refine ans_let rfl ?_; refine ans_let rfl ?_; refine ans_let rfl ?_; refine ans_let rfl ?_
    simp only [List.cons_append, List.nil_append]
    refine ans_app rfl rfl (show xl.length + [((x1, -1, 0, 0, [], [], 0, ()) : D ITy)].length < maxRow by show xl.length + 1 < 4294967296; omega) ?_
    refine ans_let rfl ?_
    simp only [List.cons_append, List.nil_append]
    refine ans_jump rfl rfl (hK (i, h, (x0, x1, x2, xl ++ [((x1, -1, 0, 0, [], [], 0, ()) : D ITy)], x4, x5, x6, x7, xv, xn, xm, ())) ⟨hi, by show ((xl ++ [_]).length : Int) ≤ 400; rw [List.length_append]; simp; omega, ?_, hv⟩ (by show (400 - ((xl ++ [_]).length : Int)).toNat < (400 - (xl.length : Int)).toNat; rw [List.length_append]; simp; omega))
    intro z hz
    rcases List.mem_append.1 hz with hz | hz
    · exact m1 z hz
    · rw [List.mem_singleton.1 hz]; exact ⟨by show (0 : Nat) < big; decide, by show (0 : Nat) < big; decide⟩
  · simp only [List.cons_append, List.nil_append]
    exact ans_jump rfl rfl (hJ (i, h, (x0, x1, x2, xl, x4, x5, x6, x7, xv, xn, xm, ())) ⟨hi, hl, m1, hv⟩)
theorem count (N k : Nat) (b : List Int) (i h : Int) (hi : Ok b i) : Ans (Lv N (k + 4) 64 [U b i h]) (Dn b fun x => 1 ≤ x ∧ x ≤ 5) := by
  refine ans_level rfl rfl ?_ (fun rs hq => hq.tys)
  unfold ir64
  refine ans_let rfl (ans_let rfl (ans_callA rfl (pickInt N k [1, 2, 3, 3, 3, 5] b i h hi (by decide) (by decide)) ?_))
  rintro _ ⟨x, i', h', rfl, hx, hi'⟩
  refine ⟨rfl, ans_let rfl (ans_ret rfl ⟨_, _, _, rfl, ?_, hi'⟩)⟩
  simp at hx
  omega
end Go.Proofs.Ytecleaangfcloaa.VtFnProposes
