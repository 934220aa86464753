/- A proposed command goes behind the log of a leader alone: the plain law. Lemmas alone, no statement. -/
import Derived.Test.YtecleaangfcloaaVpDbFnProposes
import Derived.Test.YtecleaangfcloaaVpSeFnProposes
namespace Go.Proofs.Ytecleaangfcloaa.VtFnProposes
set_option linter.unusedVariables false
set_option linter.unusedSimpArgs false
set_option linter.unnecessarySimpa false
open Go Go.Vm
theorem upAll_get {f : Nat → Bool} : ∀ {d i : Nat}, upAll f i d = true → ∀ j, i ≤ j → j < i + d → f j = true
  | 0, i, _, j, h1, h2 => by omega
  | d + 1, i, h, j, h1, h2 => by
    unfold upAll at h
    simp only [Bool.and_eq_true] at h
    by_cases hj : i = j
    · subst hj; exact h.1
    · exact upAll_get h.2 j (by omega) (by omega)
theorem upAll_of {f : Nat → Bool} : ∀ {d i : Nat}, (∀ j, i ≤ j → j < i + d → f j = true) → upAll f i d = true
  | 0, i, _ => rfl
  | d + 1, i, h => by
    unfold upAll
    simp only [Bool.and_eq_true]
    exact ⟨h i (Nat.le_refl _) (by omega), upAll_of fun j h1 h2 => h j (by omega) (by omega)⟩
theorem logOk_snoc {a b : Int} (h : a ≤ b) {y : D ITy} (hy : itemOk y = true) (hb : y.1 = b) : ∀ {l : List (D ITy)} {t : Int}, t ≤ b → logOk a t l = true → logOk b t (l ++ [y]) = true
  | [], t, ht, _ => by
    show logOk b t [y] = true
    unfold logOk
    simp only [Bool.and_eq_true, decide_eq_true_eq]
    exact ⟨hy, Int.le_trans ht (Int.le_of_eq hb.symm), Int.le_of_eq hb, rfl⟩
  | x :: l, t, ht, hl => by
    unfold logOk at hl
    simp only [Bool.and_eq_true, decide_eq_true_eq] at hl
    show logOk b t (x :: (l ++ [y])) = true
    unfold logOk
    simp only [Bool.and_eq_true, decide_eq_true_eq]
    exact ⟨hl.1, hl.2.1, Int.le_trans hl.2.2.1 h, logOk_snoc h hy hb (Int.le_trans hl.2.2.1 h) hl.2.2.2⟩
/-- What is asked of a node, written out. -/
theorem nodeOk_iff {i0 i1 i2 : Int} {l : List (D ITy)} {i4 i5 i6 i7 : Int} {v : List Bool} {n m : List Int} {s : Int} : nodeOk i0 i1 i2 l i4 i5 i6 i7 v n m s = true ↔
    (1 ≤ s ∧ s ≤ 5 ∧ 0 ≤ i0 ∧ i0 < s ∧ 0 ≤ i1 ∧ i1 ≤ 100000 ∧ -1 ≤ i2 ∧ i2 ≤ s - 1 ∧ -1 ≤ i6 ∧ i6 ≤ s - 1 ∧ (l.length : Int) ≤ 400) ∧ logOk i1 1 l = true ∧
    (0 ≤ i4 ∧ i4 ≤ (l.length : Int) ∧ 0 ≤ i5 ∧ i5 ≤ 2 ∧ 0 ≤ i7 ∧ i7 ≤ 20 ∧ (v.length : Int) = s ∧ (n.length : Int) = s ∧ (m.length : Int) = s) ∧
    roleB i0 i1 i2 i5 i6 v = true ∧ upAll (perAt i5 l.length n m) 0 s.toNat = true := by
  unfold nodeOk rng1 rng2
  simp only [Bool.and_eq_true, decide_eq_true_eq]
theorem per_of {l : List (D ITy)} {n m : List Int} {s : Int} (hn : (n.length : Int) = s) (hm : (m.length : Int) = s) (h : upAll (perAt 2 l.length n m) 0 s.toNat = true) (i : Nat) (q : Int) (p : Int) (hq : n[i]? = some q) (hp : m[i]? = some p) : (1 ≤ q ∧ q ≤ l.length + 1) ∧ (0 ≤ p ∧ p ≤ l.length) := by
  have hi : i < n.length := (List.getElem?_eq_some_iff.1 hq).1
  have := upAll_get h i (Nat.zero_le _) (by omega)
  unfold perAt at this
  rw [hq, hp] at this
  simp only [if_true, Bool.and_eq_true, decide_eq_true_eq] at this
  exact this
/-- A command's rows are short. -/
def shortC (x : D CTy) : Prop := List.length x.2.2.2.1 < big ∧ List.length x.2.2.2.2.1 < big
theorem bentOp (N k : Nat) (b : List Int) (i h : Int) (hi : Ok b i) : Ans (Lv N (k + 5) 126 [U b i h]) (fun rs => ∃ (x : D OTy) (i h : Int), rs = [⟨OTy, x⟩, U b i h] ∧ List.length x.2.1 < big ∧ List.length x.2.2.1 < big ∧ Ok b i) := by
  have hfew : few < 1001 := by decide
  have hbig : 1002 < big := by decide
  refine ans_level rfl rfl ?_ (fun rs hq => by obtain ⟨v, i, h, rfl, _⟩ := hq; rfl)
  unfold ir126
  refine ans_let rfl (ans_callA rfl (op N k 6 b i h hi (by omega) (by omega)) ?_)
  rintro _ ⟨⟨t, kk, v, n, u⟩, i, h, rfl, hk, hv, hi⟩
  refine ⟨rfl, ?_⟩
  have hk : kk.length < few := hk
  have hv : v.length < few := hv
  simp only [List.cons_append, List.nil_append]
  refine ans_let rfl (ans_let rfl (ans_callA rfl (once N (k + 1) 6 b i h hi (by omega) (by omega)) ?_))
  rintro _ ⟨on, i, h, rfl, hi⟩
  refine ⟨rfl, ?_⟩
  simp only [List.cons_append, List.nil_append]
  refine ans_ite rfl (fun _ => ?_) (fun _ => ?_)
  · refine ans_let rfl (ans_callA rfl (below N (k + 2) 4 b i h hi (by omega) (by omega)) ?_)
    rintro _ ⟨q, i, h, rfl, -, hi⟩
    refine ⟨rfl, ?_⟩
    simp only [List.cons_append, List.nil_append]
    refine ans_let rfl (ans_ite rfl (fun _ => ?_) (fun _ => ?_))
    · refine ans_let rfl (ans_let rfl (ans_callA rfl (pickInt N (k + 1) [-1, 8, 0, 2] b i h hi (by show 0 < 4; omega) (by show 4 ≤ 256; omega)) ?_))
      rintro _ ⟨z, i, h, rfl, -, hi⟩
      refine ⟨rfl, ?_⟩
      simp only [List.cons_append, List.nil_append]
      refine ans_let rfl (ans_let rfl (ans_let rfl (ans_let rfl (ans_let rfl (ans_ret rfl ⟨(z, kk, v, n, ()), i, h, rfl, few_big hk, few_big hv, hi⟩)))))
    refine ans_let rfl (ans_ite rfl (fun _ => ?_) (fun _ => ?_))
    · refine ans_let rfl (ans_let rfl ?_)
      simp only [List.cons_append, List.nil_append]
      refine ans_app (m := [65]) rfl rfl (show kk.length + 1 < 4294967296 by omega) ?_
      simp only [List.cons_append, List.nil_append]
      refine ans_let rfl (ans_let rfl (ans_let rfl (ans_let rfl (ans_let rfl (ans_ret rfl ⟨(t, kk ++ [65], v, n, ()), i, h, rfl, ?_, few_big hv, hi⟩)))))
      show (kk ++ [65]).length < big
      rw [List.length_append, List.length_singleton]; omega
    refine ans_let rfl (ans_ite rfl (fun _ => ?_) (fun _ => ?_))
    · refine ans_let rfl (ans_callA rfl (below N (k + 2) 2 b i h hi (by omega) (by omega)) ?_)
      rintro _ ⟨z, i, h, rfl, ⟨z0, z1⟩, hi⟩
      refine ⟨rfl, ?_⟩
      simp only [List.cons_append, List.nil_append]
      have hw : IntKind.i64.wrap (20 + z) = 20 + z := wrap_id (by omega) (by omega)
      refine ans_let rfl ?_
      rw [hw]
      simp only [List.cons_append, List.nil_append]
      refine ans_rep rfl rfl (by omega) (show 20 + z < 4294967296 by omega) ?_
      simp only [List.cons_append, List.nil_append]
      refine ans_let rfl (ans_let rfl (ans_let rfl (ans_let rfl (ans_let rfl (ans_ret rfl ⟨(t, kk, List.replicate (20 + z).toNat 0, n, ()), i, h, rfl, few_big hk, ?_, hi⟩)))))
      show (List.replicate (20 + z).toNat (0 : Int)).length < big
      rw [List.length_replicate]; omega
    · refine ans_let rfl (ans_let rfl (ans_callA rfl (pickInt N (k + 1) [-1, 0, 1, 2, 1000000, 1000001] b i h hi (by show 0 < 6; omega) (by show 6 ≤ 256; omega)) ?_))
      rintro _ ⟨z, i, h, rfl, -, hi⟩
      refine ⟨rfl, ?_⟩
      simp only [List.cons_append, List.nil_append]
      refine ans_let rfl (ans_let rfl (ans_let rfl (ans_let rfl (ans_let rfl (ans_ret rfl ⟨(t, kk, v, z, ()), i, h, rfl, few_big hk, few_big hv, hi⟩)))))
  · refine ans_let rfl (ans_let rfl (ans_let rfl (ans_let rfl (ans_ret rfl ⟨(t, kk, v, n, ()), i, h, rfl, few_big hk, few_big hv, hi⟩))))
set_option maxHeartbeats 2000000 in
theorem bentCmd (N k : Nat) (b : List Int) (i h : Int) (hi : Ok b i) : Ans (Lv N (k + 6) 66 [U b i h]) (fun rs => ∃ (x : D CTy) (i h : Int), rs = [⟨CTy, x⟩, U b i h] ∧ shortC x ∧ Ok b i) := by
  refine ans_level rfl rfl ?_ (fun rs hq => by obtain ⟨v, i, h, rfl, _⟩ := hq; rfl)
  unfold ir66
  refine ans_let rfl (ans_callA rfl (below N (k + 3) 4 b i h hi (by omega) (by omega)) ?_)
  rintro _ ⟨c, i, h, rfl, -, hi⟩
  refine ⟨rfl, ?_⟩
  simp only [List.cons_append, List.nil_append]
  refine ans_let rfl (ans_callA rfl (below N (k + 3) 25 b i h hi (by omega) (by omega)) ?_)
  rintro _ ⟨r, i, h, rfl, -, hi⟩
  refine ⟨rfl, ?_⟩
  simp only [List.cons_append, List.nil_append]
  refine ans_let rfl (ans_let rfl (ans_callA rfl (bentOp N k b i h hi) ?_))
  rintro _ ⟨⟨t, kk, v, n, u⟩, i, h, rfl, hk, hv, hi⟩
  refine ⟨rfl, ?_⟩
  have hk : kk.length < big := hk
  have hv : v.length < big := hv
  generalize IntKind.i64.wrap (1 + r) = r1
  simp only [List.cons_append, List.nil_append]
  refine ans_let rfl (ans_let rfl (ans_let rfl (ans_let rfl (ans_let rfl ?_))))
  simp only [List.cons_append, List.nil_append]
  refine ans_joinP (α := Int × Int × D CTy) (fun a => [S (.int .u8) b, I a.1, I a.2.1, I a.2.2.1, I a.2.2.2.1, I a.2.2.2.2.1, S (.int .u8) a.2.2.2.2.2.1, S (.int .u8) a.2.2.2.2.2.2.1, I a.2.2.2.2.2.2.2.1]) (fun a => Ok b a.1 ∧ shortC a.2.2) ?_ ?_
  · rintro ⟨i, h, c, r, t, kk, v, n, u⟩ ⟨hi, hk, hv⟩
    have hi : Ok b i := hi
    have hk : kk.length < big := hk
    have hv : v.length < big := hv
    simp only [List.cons_append, List.nil_append]
    refine ans_joinP (α := Int × Int × Int) (fun a => [S (.int .u8) b, I a.1, I a.2.1, I a.2.2]) (fun a => Ok b a.1) ?_ ?_
    · rintro ⟨i, h, r⟩ hi
      have hi : Ok b i := hi
      simp only [List.cons_append, List.nil_append]
      refine ans_joinP (α := Int × Int × Int) (fun a => [S (.int .u8) b, I a.1, I a.2.1, I a.2.2]) (fun a => Ok b a.1) ?_ ?_
      · rintro ⟨i, h, c⟩ hi
        have hi : Ok b i := hi
        simp only [List.cons_append, List.nil_append]
        refine ans_let rfl (ans_let rfl (ans_let rfl (ans_let rfl (ans_ret rfl ⟨(c, r, t, kk, v, n, ()), i, h, rfl, ⟨hk, hv⟩, hi⟩))))
      · intro J hJ
        refine ans_let rfl (ans_callA rfl (once N (k + 2) 20 b i h hi (by omega) (by omega)) ?_)
        rintro _ ⟨on, i, h, rfl, hi⟩
        refine ⟨rfl, ?_⟩
        simp only [List.cons_append, List.nil_append]
        refine ans_ite rfl (fun _ => ?_) (fun _ => ans_jump rfl rfl (hJ (i, h, _) hi))
        refine ans_let rfl (ans_let rfl (ans_callA rfl (pickInt N (k + 2) [-2, -1, 3, 4] b i h hi (by show 0 < 4; omega) (by show 4 ≤ 256; omega)) ?_))
        rintro _ ⟨z, i, h, rfl, -, hi⟩
        refine ⟨rfl, ?_⟩
        simp only [List.cons_append, List.nil_append]
        refine ans_let rfl (ans_jump rfl rfl (hJ (i, h, z) hi))
    · intro J hJ
      refine ans_let rfl (ans_callA rfl (once N (k + 2) 10 b i h hi (by omega) (by omega)) ?_)
      rintro _ ⟨on, i, h, rfl, hi⟩
      refine ⟨rfl, ?_⟩
      simp only [List.cons_append, List.nil_append]
      refine ans_ite rfl (fun _ => ?_) (fun _ => ans_jump rfl rfl (hJ (i, h, _) hi))
      refine ans_let rfl (ans_let rfl (ans_callA rfl (pickInt N (k + 2) [-1, 0, 1, 1000000, 1000001] b i h hi (by show 0 < 5; omega) (by show 5 ≤ 256; omega)) ?_))
      rintro _ ⟨z, i, h, rfl, -, hi⟩
      refine ⟨rfl, ?_⟩
      simp only [List.cons_append, List.nil_append]
      refine ans_let rfl (ans_jump rfl rfl (hJ (i, h, z) hi))
  · intro J hJ
    refine ans_let rfl (ans_callA rfl (once N (k + 2) 8 b i h hi (by omega) (by omega)) ?_)
    rintro _ ⟨on, i, h, rfl, hi⟩
    refine ⟨rfl, ?_⟩
    simp only [List.cons_append, List.nil_append]
    refine ans_ite rfl (fun _ => ?_) (fun _ => ?_)
    · refine ans_let rfl (ans_let rfl (ans_let rfl (ans_jump rfl rfl (hJ (i, h, ((-1, 0, 0, [], [], 0, ()) : D CTy)) ⟨hi, by show (0 : Nat) < big; decide, by show (0 : Nat) < big; decide⟩))))
    · exact ans_jump rfl rfl (hJ (i, h, ((c, r1, t, kk, v, n, ()) : D CTy)) ⟨hi, hk, hv⟩)
theorem draw16 (N k : Nat) (b : List Int) (hb : b.length ≤ 9223372036854775807) (hN : big ≤ N) : Ans (Lv N (k + 9) 16 [S (.int .u8) b]) (fun rs => ∃ (x : D NTy) (s : Int) (c : D CTy), rs = [⟨NTy, x⟩, I s, ⟨CTy, c⟩] ∧ Mb x ∧ shortC c) := by
  refine ans_level rfl rfl ?_ (fun rs hq => by obtain ⟨x, s, c, rfl, _⟩ := hq; rfl)
  unfold ir16
  refine ans_callA rfl (new N (k + 7) b hb hN) ?_
  rintro _ ⟨h, rfl⟩
  refine ⟨rfl, ?_⟩
  simp only [List.cons_append, List.nil_append]
  refine ans_let rfl (ans_callA rfl (count N (k + 4) b 0 h ⟨hb, by omega, by omega⟩) ?_)
  rintro _ ⟨s, i, h, rfl, ⟨s0, s1⟩, hi⟩
  refine ⟨rfl, ?_⟩
  simp only [List.cons_append, List.nil_append]
  refine ans_let rfl (ans_callA rfl (bent N k s b i h hi s0 s1 hN) ?_)
  rintro _ ⟨x, i, h, rfl, hx, hi⟩
  refine ⟨rfl, ?_⟩
  simp only [List.cons_append, List.nil_append]
  refine ans_let rfl (ans_callA rfl (bentCmd N (k + 2) b i h hi) ?_)
  rintro _ ⟨c, i, h, rfl, hc, hi⟩
  refine ⟨rfl, ?_⟩
  simp only [List.cons_append, List.nil_append]
  refine ans_let rfl (ans_let rfl (ans_let rfl (ans_let rfl (ans_ret rfl ⟨x, s, c, rfl, hx, hc⟩))))
theorem same52 (N k : Nat) (l : List Int) : Lv N (k + 1) 52 [S (.int .u8) l, S (.int .u8) l] = some [B true] := by
  refine level_den rfl rfl ?_ rfl
  unfold ir52
  refine den_let rfl (den_let rfl (den_let rfl (den_ret rfl ?_)))
  exact congrArg (fun z : Bool => some [(⟨.bool, z⟩ : Dy)]) (beq_self_eq_true _).symm
theorem same71 (N k : Nat) (x : D OTy) : Lv N (k + 2) 71 [⟨OTy, x⟩, ⟨OTy, x⟩] = some [B true] := by
  refine level_den rfl rfl ?_ rfl
  unfold ir71
  obtain ⟨t, kk, v, n, u⟩ := x
  refine den_let rfl (den_let rfl (den_let rfl (den_ite rfl (fun _ => ?_) (fun h => absurd rfl (of_decide_eq_false h)))))
  refine den_call rfl (same52 N k kk) rfl (den_ite rfl (fun _ => ?_) (fun h => by cases h))
  refine den_call rfl (same52 N k v) rfl (den_ite rfl (fun _ => ?_) (fun h => by cases h))
  refine den_let rfl (den_ret rfl ?_)
  show some [B true] = some [B (n == n)]
  rw [beq_self_eq_true]
theorem same19 (N k : Nat) (x : D CTy) : Lv N (k + 3) 19 [⟨CTy, x⟩, ⟨CTy, x⟩] = some [B true] := by
  refine level_den rfl rfl ?_ rfl
  unfold ir19
  obtain ⟨c, r, t, kk, v, n, u⟩ := x
  refine den_let rfl (den_let rfl (den_let rfl (den_ite rfl (fun _ => ?_) (fun h => absurd rfl (of_decide_eq_false h)))))
  refine den_let rfl (den_ite rfl (fun _ => ?_) (fun h => absurd rfl (of_decide_eq_false h)))
  exact den_let rfl (den_let rfl (den_call rfl (same71 N k (t, kk, v, n, ())) rfl (den_ret rfl rfl)))
set_option maxHeartbeats 4000000 in
theorem propose (N k : Nat) (i0 i1 i2 : Int) (l : List (D ITy)) (i4 i5 i6 i7 : Int) (v : List Bool) (n m : List Int) (s : Int) (c : D CTy) (hN : big ≤ N) (hx : ∀ y ∈ l, okI y) (hc : shortC c) (hk : nodeOk i0 i1 i2 l i4 i5 i6 i7 v n m s = true) :
    Ans (Lv N (k + 8) 69 [⟨CTy, c⟩, ⟨STy, (i0, i1, i2, l, i4, i5, i6, i7, v, n, m, [], ())⟩]) (fun rs => ((i5 ≠ 2 ∨ 200 ≤ (l.length : Int)) ∧ rs = [B false, ⟨STy, (i0, i1, i2, l, i4, i5, i6, i7, v, n, m, [], ())⟩]) ∨
      (i5 = 2 ∧ (l.length : Int) < 200 ∧ ∃ (q : Int) (p : List (D MTy)), rs = [B true, ⟨STy, (i0, i1, i2, l ++ [((i1, c) : D ITy)], q, i5, i6, i7, v, n.set i0.toNat ((l.length : Int) + 1 + 1), m.set i0.toNat ((l.length : Int) + 1), p, ())⟩] ∧ i4 ≤ q ∧ q ≤ (l.length : Int) + 1 ∧ (p.length : Int) = s - 1)) := by
  refine ans_level rfl rfl ?_ (fun rs hq => by rcases hq with ⟨_, rfl⟩ | ⟨_, _, q, p, rfl, _⟩ <;> rfl)
  unfold ir69
  obtain ⟨⟨s1, s5, a0, a1, t0, t1, vo0, vo1, le0, le1, hl⟩, hlog, ⟨c0, c1, r0, r1, w0, w1, hv, hn, hm⟩, hrole, hup⟩ := nodeOk_iff.1 hk
  obtain ⟨x0, x1, x2, x3, x4, x5, x6⟩ := c
  refine ans_let rfl (ans_let rfl (ans_ite rfl (fun d => ?_) (fun d => ?_)))
  · have d : i5 ≠ 2 := by simpa using d
    exact ans_let rfl (ans_ret rfl (.inl ⟨.inl d, rfl⟩))
  have d : i5 = 2 := by simpa using d
  refine ans_let rfl (ans_let rfl (ans_ite rfl (fun e => ?_) (fun e => ?_)))
  · have e : (l.length : Int) ≥ 200 := of_decide_eq_true e
    exact ans_let rfl (ans_ret rfl (.inl ⟨.inr e, rfl⟩))
  have e : ¬ (l.length : Int) ≥ 200 := of_decide_eq_false e
  simp only [List.cons_append, List.nil_append]
  refine ans_let rfl (ans_let rfl (ans_call rfl (own121 N (k + 4) (x0, x1, x2, x3, x4, x5, ()) hc.1 hc.2) rfl ?_))
  simp only [List.cons_append, List.nil_append]
  refine ans_let rfl (ans_let rfl (ans_let rfl (ans_let rfl ?_)))
  simp only [List.cons_append, List.nil_append]
  refine ans_app (m := [((i1, x0, x1, x2, x3, x4, x5, ()) : D ITy)]) rfl rfl (show l.length + 1 < 4294967296 by omega) ?_
  simp only [List.cons_append, List.nil_append]
  refine ans_let rfl (ans_let rfl ?_)
  simp only [List.cons_append, List.nil_append]
  have hql : (l ++ [((i1, x0, x1, x2, x3, x4, x5, ()) : D ITy)]).length = l.length + 1 := by rw [List.length_append, List.length_singleton]
  have hqx : ∀ y ∈ l ++ [((i1, x0, x1, x2, x3, x4, x5, ()) : D ITy)], okI y := by
    intro y hy
    rcases List.mem_append.1 hy with hy | hy
    · exact hx y hy
    · rw [List.mem_singleton.1 hy]; exact hc
  generalize hL : l ++ [((i1, x0, x1, x2, x3, x4, x5, ()) : D ITy)] = L at hql hqx
  refine ans_callA rfl (advance132 N (k + 4) i0 i1 i2 L i4 i5 i6 i7 v n m [] hN (by omega) a0 (by omega) (by omega) (by omega) c0 (by omega)) ?_
  rintro _ ⟨q, rfl, q0, q1⟩
  refine ⟨rfl, ?_⟩
  simp only [List.cons_append, List.nil_append]
  refine ans_let rfl (ans_callA rfl (sendAll133 N k i0 i1 i2 L q i5 i6 i7 v (n.set i0.toNat ((L.length : Int) + 1)) (m.set i0.toNat (L.length : Int)) [] hN (by omega) hqx a0 (by omega) (by omega) (by rw [List.length_set]; omega) ?_ (by show 0 ≤ 10; decide)) ?_)
  · intro j z hz
    rw [List.getElem?_set] at hz
    split at hz
    · split at hz
      · simp only [Option.some.injEq] at hz; omega
      · cases hz
    · have hj : j < n.length := (List.getElem?_eq_some_iff.1 hz).1
      subst d
      have := (per_of hn hm hup j z _ hz (List.getElem?_eq_getElem (by omega))).1
      omega
  · rintro _ ⟨p, rfl, hp⟩
    refine ⟨rfl, ?_⟩
    have hp : p.length + 1 = 0 + v.length := hp
    have hqc : ((L.length : Nat) : Int) = (l.length : Int) + 1 := by omega
    simp only [List.cons_append, List.nil_append]
    refine Ans.imp (Q := fun rs => rs = [B true, (⟨STy, (i0, i1, i2, L, q, i5, i6, i7, v, n.set i0.toNat ((L.length : Int) + 1), m.set i0.toNat (L.length : Int), p, ())⟩ : Dy)]) (ans_let rfl (ans_ret rfl rfl)) ?_
    rintro _ rfl
    refine .inr ⟨d, by omega, q, p, ?_, q0, by omega, by omega⟩
    rw [hqc]
def zero : D NTy := (0, 0, 0, [], 0, 0, 0, 0, [], [], [], ())
set_option maxHeartbeats 4000000 in
theorem propose17 (N k : Nat) (i0 i1 i2 : Int) (l : List (D ITy)) (i4 i5 i6 i7 : Int) (v : List Bool) (n m : List Int) (s : Int) (c : D CTy) (hN : big ≤ N) (hl : (l.length : Int) ≤ 400) (hx : ∀ y ∈ l, okI y) (hv : v.length < big) (hc : shortC c) :
    Ans (Lv N (k + 9) 17 [⟨NTy, (i0, i1, i2, l, i4, i5, i6, i7, v, n, m, ())⟩, I s, ⟨CTy, c⟩]) (fun rs => ((nodeOk i0 i1 i2 l i4 i5 i6 i7 v n m s = false ∨ cmdOk c.1 c.2.1 c.2.2.1 c.2.2.2.1 c.2.2.2.2.1 c.2.2.2.2.2.1 = false) ∧ rs = [⟨NTy, zero⟩, S MTy [], B false]) ∨
      (nodeOk i0 i1 i2 l i4 i5 i6 i7 v n m s = true ∧ cmdOk c.1 c.2.1 c.2.2.1 c.2.2.2.1 c.2.2.2.2.1 c.2.2.2.2.2.1 = true ∧
        (((i5 ≠ 2 ∨ 200 ≤ (l.length : Int)) ∧ rs = [⟨NTy, (i0, i1, i2, l, i4, i5, i6, i7, v, n, m, ())⟩, S MTy [], B false]) ∨
        (i5 = 2 ∧ (l.length : Int) < 200 ∧ ∃ (q : Int) (p : List (D MTy)), rs = [⟨NTy, (i0, i1, i2, l ++ [((i1, c) : D ITy)], q, i5, i6, i7, v, n.set i0.toNat ((l.length : Int) + 1 + 1), m.set i0.toNat ((l.length : Int) + 1), ())⟩, S MTy p, B true] ∧ i4 ≤ q ∧ q ≤ (l.length : Int) + 1 ∧ (p.length : Int) = s - 1)))) := by
  refine ans_level rfl rfl ?_ (fun rs hq => by rcases hq with ⟨_, rfl⟩ | ⟨_, _, ⟨_, rfl⟩ | ⟨_, _, q, p, rfl, _⟩⟩ <;> rfl)
  unfold ir17
  have hl' : l.length < big := by unfold big; omega
  obtain ⟨x0, x1, x2, x3, x4, x5, x6⟩ := c
  dsimp only
  refine ans_let rfl (ans_let rfl (ans_let rfl (ans_call rfl (node15 N (k + 2) i0 i1 i2 l i4 i5 i6 i7 v n m s hN hl' hx hv) rfl (ans_let rfl (ans_ite rfl (fun d => ?_) (fun d => ?_))))))
  · have d : nodeOk i0 i1 i2 l i4 i5 i6 i7 v n m s = false := by simpa using d
    exact ans_let rfl (ans_let rfl (ans_let rfl (ans_ret rfl (.inl ⟨.inl d, rfl⟩))))
  have d : nodeOk i0 i1 i2 l i4 i5 i6 i7 v n m s = true := by simpa using d
  have hf := nodeOk_iff.1 d
  have hnb : n.length < big := by have := hf.2.2.1; have := hf.1; unfold big; omega
  have hmb : m.length < big := by have := hf.2.2.1; have := hf.1; unfold big; omega
  simp only [List.cons_append, List.nil_append]
  refine ans_let rfl (ans_call rfl (cmd67 N (k + 4) x0 x1 x2 x3 x4 x5 hN hc.1) rfl ?_)
  simp only [List.cons_append, List.nil_append]
  refine ans_let rfl (ans_ite rfl (fun e => ?_) (fun e => ?_))
  · have e : cmdOk x0 x1 x2 x3 x4 x5 = false := by simpa using e
    exact ans_let rfl (ans_let rfl (ans_let rfl (ans_ret rfl (.inl ⟨.inr e, rfl⟩))))
  have e : cmdOk x0 x1 x2 x3 x4 x5 = true := by simpa using e
  simp only [List.cons_append, List.nil_append]
  refine ans_let rfl (ans_call rfl (own68 N (k + 3) i0 i1 i2 l i4 i5 i6 i7 v n m hN hl hx hv hnb hmb) rfl ?_)
  simp only [List.cons_append, List.nil_append]
  refine ans_let rfl (ans_let rfl (ans_let rfl (ans_let rfl (ans_let rfl ?_))))
  simp only [List.cons_append, List.nil_append]
  refine ans_callA rfl (propose N k i0 i1 i2 l i4 i5 i6 i7 v n m s (x0, x1, x2, x3, x4, x5, ()) hN hx hc d) ?_
  rintro _ (⟨h1, rfl⟩ | ⟨h1, h2, q, p, rfl, h3⟩)
  · refine ⟨rfl, ?_⟩
    simp only [List.cons_append, List.nil_append]
    exact ans_let rfl (ans_let rfl (ans_let rfl (ans_let rfl (ans_ret rfl (.inr ⟨d, e, .inl ⟨h1, rfl⟩⟩)))))
  · refine ⟨rfl, ?_⟩
    simp only [List.cons_append, List.nil_append]
    exact ans_let rfl (ans_let rfl (ans_let rfl (ans_let rfl (ans_ret rfl (.inr ⟨d, e, .inr ⟨h1, h2, q, p, rfl, h3⟩⟩)))))
set_option maxHeartbeats 8000000 in
theorem law' (k : Nat) (b : List Int) (hb : b.length ≤ 9223372036854775807) : Ans (Lv big (k + 10) 4 [S (.int .u8) b]) (fun rs => rs = [B true]) := by
  refine ans_level rfl rfl ?_ (fun rs hq => by rw [hq]; rfl)
  unfold ir4
  refine ans_callA rfl (draw16 big k b hb (Nat.le_refl _)) ?_
  rintro _ ⟨⟨i0, i1, i2, l, i4, i5, i6, i7, v, n, m, u⟩, s, ⟨x0, x1, x2, x3, x4, x5, x6⟩, rfl, ⟨hl, hx, hv⟩, hc⟩
  refine ⟨rfl, ?_⟩
  have hl : (l.length : Int) ≤ 400 := hl
  have hx : ∀ y ∈ l, okI y := hx
  have hv : (v.length : Int) ≤ 6 := hv
  have hv' : v.length < big := by unfold big; omega
  have hl' : l.length < big := by unfold big; omega
  have e13 := node13 big (k + 3) i0 i1 i2 l i4 i5 i6 i7 v n m s (Nat.le_refl _) hl' hx hv'
  have e18 := cmd18 big (k + 6) x0 x1 x2 x3 x4 x5 (Nat.le_refl _) hc.1
  simp only [List.cons_append, List.nil_append]
  refine ans_let rfl (ans_let rfl (ans_let rfl (ans_let rfl (ans_callA rfl (propose17 big k i0 i1 i2 l i4 i5 i6 i7 v n m s (x0, x1, x2, x3, x4, x5, ()) (Nat.le_refl _) hl hx hv' hc) ?_))))
  have hmain : ∀ {ρ : List Dy} {F : Fns} {N : Nat} {Ls : List Lb} {Q : List Dy → Prop}, True := fun {_ _ _ _ _} => trivial
  rintro _ (⟨hno, rfl⟩ | ⟨hok, hck, ⟨h1, rfl⟩ | ⟨h1, h2, q, p, rfl, h3, h4, h5⟩⟩)
  · refine ⟨rfl, ?_⟩
    have hno : nodeOk i0 i1 i2 l i4 i5 i6 i7 v n m s = false ∨ cmdOk x0 x1 x2 x3 x4 x5 = false := hno
    unfold zero
    simp only [List.cons_append, List.nil_append]
    refine ans_let rfl (ans_joinP (α := Bool) (fun b => [B b]) (fun b => b = true) (fun b hb => ?_) (fun J hJ => ?_))
    · subst hb
      simp only [List.cons_append, List.nil_append]
      refine ans_ite (b := true) rfl (fun _ => ?_) (fun h => by cases h)
      refine ans_let rfl (ans_ite (b := true) rfl (fun _ => ?_) (fun h => by cases h))
      exact ans_let rfl (ans_let rfl (ans_ret rfl rfl))
    · refine ans_let rfl (ans_call rfl e13 rfl (ans_let rfl (ans_ite rfl (fun _ => ans_jump rfl rfl (hJ true rfl)) (fun d => ?_))))
      have d : nodeOk i0 i1 i2 l i4 i5 i6 i7 v n m s = true := by simpa using d
      simp only [List.cons_append, List.nil_append]
      refine ans_let rfl (ans_call rfl e18 rfl (ans_let rfl (ans_jump rfl rfl (hJ _ ?_))))
      rcases hno with h | h
      · rw [h] at d; cases d
      · rw [h]; rfl
  · refine ⟨rfl, ?_⟩
    have hck : cmdOk x0 x1 x2 x3 x4 x5 = true := hck
    rw [hok] at e13
    rw [hck] at e18
    simp only [List.cons_append, List.nil_append]
    refine ans_let rfl (ans_joinP (α := Bool) (fun b => [B b]) (fun b => b = false) (fun b hb => ?_) (fun J hJ => ?_))
    · subst hb
      simp only [List.cons_append, List.nil_append]
      refine ans_ite (b := false) rfl (fun h => by cases h) (fun _ => ?_)
      refine ans_let rfl (ans_ite (b := true) rfl (fun _ => ?_) (fun h => by cases h))
      refine ans_let rfl (ans_let rfl (ans_ite (b := true) rfl (fun _ => ?_) (fun h => by cases h)))
      refine ans_let rfl (ans_let rfl (ans_let rfl (ans_ite rfl (fun _ => ?_) (fun h => absurd rfl (of_decide_eq_false h)))))
      refine ans_let rfl (ans_ite rfl (fun _ => ans_ret rfl rfl) (fun d => ?_))
      have d : i5 = 2 := by simpa using d
      have h1 : 200 ≤ (l.length : Int) := h1.resolve_left (fun h => h d)
      refine ans_let rfl (ans_let rfl (ans_ret rfl ?_))
      show [B (decide ((l.length : Int) ≥ 200))] = [B true]
      rw [decide_eq_true h1]
    · refine ans_let rfl (ans_call rfl e13 rfl (ans_let rfl (ans_ite (b := false) rfl (fun h => by cases h) (fun _ => ?_))))
      simp only [List.cons_append, List.nil_append]
      refine ans_let rfl (ans_call rfl e18 rfl (ans_let rfl (ans_jump rfl rfl (hJ _ rfl))))
  · refine ⟨rfl, ?_⟩
    have hck : cmdOk x0 x1 x2 x3 x4 x5 = true := hck
    rw [hok] at e13
    rw [hck] at e18
    obtain ⟨⟨s1, s5, a0, a1, t0, t1, vo0, vo1, le0, le1, _⟩, hlog, ⟨c0, c1, r0, r1, w0, w1, hvs, hn, hm⟩, hrole, hup⟩ := nodeOk_iff.1 hok
    subst h1
    have hi1 : 1 ≤ i1 := by
      unfold roleB at hrole
      by_cases h : i1 < 1
      · rw [decide_eq_true h] at hrole; simp at hrole
      · exact Int.not_lt.1 h
    have hLl : (l ++ [((i1, x0, x1, x2, x3, x4, x5, ()) : D ITy)]).length = l.length + 1 := by rw [List.length_append, List.length_singleton]
    have hLg : (l ++ [((i1, x0, x1, x2, x3, x4, x5, ()) : D ITy)])[l.length]? = some ((i1, x0, x1, x2, x3, x4, x5, ()) : D ITy) := by simp
    have hLx : ∀ y ∈ l ++ [((i1, x0, x1, x2, x3, x4, x5, ()) : D ITy)], okI y := by
      intro y hy
      rcases List.mem_append.1 hy with hy | hy
      · exact hx y hy
      · rw [List.mem_singleton.1 hy]; exact hc
    have hit : itemOk ((i1, x0, x1, x2, x3, x4, x5, ()) : D ITy) = true := by
      unfold itemOk
      simp only [Bool.and_eq_true, decide_eq_true_eq]
      exact ⟨⟨hi1, t1⟩, hck⟩
    have hlog2 := logOk_snoc (b := i1) (Int.le_refl _) hit rfl hi1 hlog
    have h4 : q ≤ (l.length : Int) + 1 := h4
    generalize hL : l ++ [((i1, x0, x1, x2, x3, x4, x5, ()) : D ITy)] = L at hLl hLg hLx hlog2
    have hLi : (L.length : Int) = (l.length : Int) + 1 := by omega
    have hok2 : nodeOk i0 i1 i2 L q 2 i6 i7 v (n.set i0.toNat ((l.length : Int) + 1 + 1)) (m.set i0.toNat ((l.length : Int) + 1)) s = true := by
      refine nodeOk_iff.2 ⟨⟨s1, s5, a0, a1, t0, t1, vo0, vo1, le0, le1, by omega⟩, hlog2, ⟨by omega, by omega, r0, r1, w0, w1, hvs, by rw [List.length_set]; exact hn, by rw [List.length_set]; exact hm⟩, hrole, upAll_of fun j _ hj => ?_⟩
      have hjn : j < n.length := by omega
      have hjm : j < m.length := by omega
      have hper := per_of hn hm hup j _ _ (List.getElem?_eq_getElem hjn) (List.getElem?_eq_getElem hjm)
      unfold perAt
      rw [hLi, List.getElem?_set, List.getElem?_set]
      by_cases hj0 : i0.toNat = j
      · rw [if_pos hj0, if_pos (by omega), if_pos hj0, if_pos (by omega)]
        simp only [if_true, Bool.and_eq_true, decide_eq_true_eq]
        omega
      · rw [if_neg hj0, if_neg hj0, List.getElem?_eq_getElem hjn, List.getElem?_eq_getElem hjm]
        simp only [if_true, Bool.and_eq_true, decide_eq_true_eq]
        omega
    have e15 := node15 big (k + 3) i0 i1 i2 L q 2 i6 i7 v (n.set i0.toNat ((l.length : Int) + 1 + 1)) (m.set i0.toNat ((l.length : Int) + 1)) s (Nat.le_refl _) (by unfold big; omega) hLx hv'
    rw [hok2] at e15
    have hw : IntKind.i64.wrap ((l.length : Int) + 1) = (l.length : Int) + 1 := wrap_id (by omega) (by omega)
    have hs : IntKind.i64.wrap (s - 1) = s - 1 := wrap_id (by omega) (by omega)
    simp only [List.cons_append, List.nil_append]
    refine ans_let rfl (ans_joinP (α := Bool) (fun b => [B b]) (fun b => b = false) (fun b hb => ?_) (fun J hJ => ?_))
    · subst hb
      simp only [List.cons_append, List.nil_append]
      refine ans_ite (b := false) rfl (fun h => by cases h) (fun _ => ?_)
      refine ans_let rfl (ans_ite (b := false) rfl (fun h => by cases h) (fun _ => ?_))
      refine ans_let rfl (ans_call rfl e15 rfl (ans_ite (b := true) rfl (fun _ => ?_) (fun h => by cases h)))
      simp only [List.cons_append, List.nil_append]
      refine ans_let rfl (ans_ite (b := true) rfl (fun _ => ?_) (fun h => by cases h))
      refine ans_let rfl (ans_let rfl (ans_let rfl ?_))
      rw [hw]
      refine ans_let rfl (ans_ite rfl (fun _ => ?_) (fun h => absurd hLi (of_decide_eq_false h)))
      simp only [List.cons_append, List.nil_append]
      refine ans_let rfl (ans_let rfl ?_)
      simp only [List.cons_append, List.nil_append]
      refine ans_idx (n := (l.length : Int)) rfl rfl rfl (by omega) (by rw [Int.toNat_natCast]; exact hLg) ?_
      simp only [List.cons_append, List.nil_append]
      refine ans_idx (n := (l.length : Int)) rfl rfl rfl (by omega) (by rw [Int.toNat_natCast]; exact hLg) ?_
      simp only [List.cons_append, List.nil_append]
      refine ans_let rfl (ans_let rfl (ans_call rfl (same19 big (k + 6) (x0, x1, x2, x3, x4, x5, ())) rfl ?_))
      simp only [List.cons_append, List.nil_append]
      refine ans_ite (b := true) rfl (fun _ => ?_) (fun h => by cases h)
      refine ans_let rfl (ans_let rfl ?_)
      rw [hs]
      refine ans_let rfl (ans_ret rfl ?_)
      show [B (decide ((p.length : Int) = s - 1))] = [B true]
      rw [decide_eq_true h5]
    · refine ans_let rfl (ans_call rfl e13 rfl (ans_let rfl (ans_ite (b := false) rfl (fun h => by cases h) (fun _ => ?_))))
      simp only [List.cons_append, List.nil_append]
      refine ans_let rfl (ans_call rfl e18 rfl (ans_let rfl (ans_jump rfl rfl (hJ _ rfl))))
theorem law (k : Nat) (b : D (.sl (.int .u8))) (hw : WfD (.sl (.int .u8)) b) : Lv big (k + 10) 4 [S (.int .u8) b] = some [⟨.bool, true⟩] := by
  obtain ⟨rs, h1, rfl⟩ := law' k b hw.1
  exact h1
end Go.Proofs.Ytecleaangfcloaa.VtFnProposes
