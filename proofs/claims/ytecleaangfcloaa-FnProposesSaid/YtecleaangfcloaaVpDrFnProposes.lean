/- The cursor over the bytes of a draw always answers. Lemmas alone, no statement. -/
import Derived.Test.YtecleaangfcloaaVtFnProposes
import Derived.Test.YtecleaangfcloaaVmTse
namespace Go.Proofs.Ytecleaangfcloaa.VtFnProposes
set_option linter.unusedVariables false
set_option linter.unusedSimpArgs false
open Go Go.Vm
abbrev UTy : Ty := .pair (.sl (.int .u8)) (.pair (.int .i64) (.pair (.int .i64) .unit))
abbrev U (b : List Int) (i h : Int) : Dy := ⟨UTy, (b, i, h, ())⟩
/-- A place in the bytes: one that they have, or the first behind them. -/
def Ok (b : List Int) (i : Int) : Prop := b.length ≤ 9223372036854775807 ∧ 0 ≤ i ∧ i ≤ b.length
theorem and255 (n : Int) : 0 ≤ Go.bits .and .i64 n 255 ∧ Go.bits .and .i64 n 255 ≤ 255 := by
  have h255 : (BitVec.ofInt 64 255).toNat = 2 ^ 8 - 1 := by decide
  have key : (BitVec.ofInt 64 n &&& BitVec.ofInt 64 255).toNat = (n % ((2 ^ 64 : Nat) : Int)).toNat % 2 ^ 8 := by
    rw [BitVec.toNat_and, BitVec.toNat_ofInt, h255, Nat.and_two_pow_sub_one_eq_mod]
  have e : Go.bits .and .i64 n 255 = n % 256 := by
    show IntKind.i64.wrap ((BitVec.ofInt 64 n &&& BitVec.ofInt 64 255).toNat : Nat) = n % 256
    rw [key, IntKind.wrap_i64]
    omega
  rw [e]; omega
section
variable {F : Fns} {N : Nat} {ρ : List Dy} {Ls : List (List Dy → Option (List Dy))} {Q : List Dy → Prop}
theorem ans_callA {P : List Dy → Prop} {f n : Nat} {xs : List A} {k : IR} {ds : List Dy} (h : evAs ρ xs = some ds) (hF : Ans (F f ds) P) (hk : ∀ rs, P rs → rs.length = n ∧ Ans (den F N k (ρ ++ rs) Ls) Q) : Ans (den F N (.call f xs n k) ρ Ls) Q := by
  obtain ⟨rs, h1, h2⟩ := hF
  exact ans_call h h1 (hk rs h2).1 (hk rs h2).2
end
theorem ev_rem {x n : Int} (h : n ≠ 0) : evX (.bin .rem 3) [I x, I n] = some (I (x.tmod n)) := by
  simp only [evX, valA]
  unfold binOp
  simp only [Op.intDiv, h, pureOf]
  simp only [if_false]
  rfl
/-- A number and the cursor behind it. -/
def Dn (b : List Int) (P : Int → Prop) (rs : List Dy) : Prop := ∃ x i h, rs = [I x, U b i h] ∧ P x ∧ Ok b i
theorem Dn.tys {b : List Int} {P : Int → Prop} {rs : List Dy} (h : Dn b P rs) : rs.map (·.1) = [.int .i64, UTy] := by
  obtain ⟨x, i, h, rfl, _⟩ := h; rfl
theorem byte (N k : Nat) (b : List Int) (i h : Int) (hi : Ok b i) : Ans (Lv N (k + 1) 167 [U b i h]) (Dn b fun x => 0 ≤ x ∧ x ≤ 255) := by
  refine ans_level rfl rfl ?_ (fun rs hq => hq.tys)
  unfold ir167
  refine ans_let rfl (ans_let rfl (ans_let rfl (ans_let rfl (ans_let rfl (ans_let rfl (ans_let rfl (ans_let rfl (ans_let rfl (ans_ite rfl (fun c => ?_) (fun c => ?_))))))))))
  · have c : i < b.length := of_decide_eq_true c
    have hlt : i.toNat < b.length := by have := hi.2.1; omega
    simp only [List.cons_append, List.nil_append]
    refine ans_idx rfl rfl rfl hi.2.1 (List.getElem?_eq_getElem hlt) (ans_let rfl (ans_let rfl (ans_let rfl (ans_let rfl (ans_let rfl (ans_let rfl (ans_let rfl (ans_ret rfl ?_))))))))
    obtain ⟨g0, g1, g2⟩ := hi
    have hw : IntKind.i64.wrap (i + 1) = i + 1 := wrap_id (by omega) (by omega)
    refine ⟨_, IntKind.i64.wrap (i + 1), _, rfl, and255 _, g0, ?_⟩
    rw [hw]
    omega
  · exact ans_let rfl (ans_ret rfl ⟨_, _, _, rfl, and255 _, hi⟩)
theorem below (N k : Nat) (n : Int) (b : List Int) (i h : Int) (hi : Ok b i) (h0 : 0 < n) (hn : n ≤ 256) : Ans (Lv N (k + 2) 110 [I n, U b i h]) (Dn b fun x => 0 ≤ x ∧ x < n) := by
  refine ans_level rfl rfl ?_ (fun rs hq => hq.tys)
  unfold ir110
  refine ans_let rfl (ans_ite rfl (fun c => ?_) (fun _ => ans_let rfl (ans_ite rfl (fun _ => ?_) (fun c => ?_))))
  · have c : n ≤ 0 := of_decide_eq_true c
    omega
  · refine ans_let rfl (ans_callA rfl (byte N k b i h hi) ?_)
    rintro _ ⟨x, i', h', rfl, ⟨x0, x1⟩, hi'⟩
    refine ⟨rfl, ?_⟩
    refine ans_let (ev_rem (by omega)) (ans_let rfl (ans_ret rfl ⟨_, _, _, rfl, ?_, hi'⟩))
    rw [Int.tmod_eq_emod_of_nonneg x0]
    exact ⟨Int.emod_nonneg _ (by omega), Int.emod_lt_of_pos _ h0⟩
  · have c : ¬ n ≤ 256 := of_decide_eq_false c
    omega
theorem once (N k : Nat) (n : Int) (b : List Int) (i h : Int) (hi : Ok b i) (h0 : 0 < n) (hn : n ≤ 256) : Ans (Lv N (k + 3) 109 [I n, U b i h]) (fun rs => ∃ x i h, rs = [B x, U b i h] ∧ Ok b i) := by
  refine ans_level rfl rfl ?_ (fun rs hq => by obtain ⟨x, i, h, rfl, _⟩ := hq; rfl)
  unfold ir109
  refine ans_let rfl (ans_callA rfl (below N k n b i h hi h0 hn) ?_)
  rintro _ ⟨x, i', h', rfl, _, hi'⟩
  exact ⟨rfl, ans_let rfl (ans_let rfl (ans_ret rfl ⟨_, _, _, rfl, hi'⟩))⟩
theorem pickInt (N k : Nat) (l : List Int) (b : List Int) (i h : Int) (hi : Ok b i) (h0 : 0 < l.length) (hn : l.length ≤ 256) : Ans (Lv N (k + 3) 111 [S (.int .i64) l, U b i h]) (Dn b fun x => x ∈ l) := by
  refine ans_level rfl rfl ?_ (fun rs hq => hq.tys)
  unfold ir111
  refine ans_let rfl (ans_let rfl (ans_callA rfl (below N k l.length b i h hi (by omega) (by omega)) ?_))
  rintro _ ⟨x, i', h', rfl, ⟨x0, x1⟩, hi'⟩
  have hlt : x.toNat < l.length := by omega
  refine ⟨rfl, ans_idx rfl rfl rfl x0 (List.getElem?_eq_getElem hlt) (ans_let rfl (ans_let rfl (ans_ret rfl ⟨_, _, _, rfl, List.getElem_mem hlt, hi'⟩)))⟩
set_option maxHeartbeats 1000000 in
theorem new (N k : Nat) (b : List Int) (hb : b.length ≤ 9223372036854775807) (hN : big ≤ N) : Ans (Lv N (k + 1) 63 [S (.int .u8) b]) (fun rs => ∃ h, rs = [U b 0 h]) := by
  refine ans_level rfl rfl ?_ (fun rs hq => by obtain ⟨h, rfl⟩ := hq; rfl)
  unfold ir63
  refine ans_let rfl (ans_let rfl (ans_loop (ans_jump rfl rfl ?_)))
  have hb' : 4002 < big := by unfold big; omega
  refine rounds_ans (α := Int × Int) (enc := fun a => [I a.1, I a.2]) (Post := fun _ rs => ∃ h, rs = [U b 0 h]) (meas := fun a => (4001 - a.2).toNat) (R := fun a => 0 ≤ a.2 ∧ a.2 ≤ 4000) ?_ N (_, 0) ⟨by show (0 : Int) ≤ 0; omega, by show (0 : Int) ≤ 4000; omega⟩ (by show (4001 - (0 : Int)).toNat < N; omega)
  rintro J ⟨h, i⟩ ⟨i0, i1⟩ hJ
  dsimp only at i0 i1
  simp only [List.cons_append, List.nil_append]
  refine ans_let rfl (ans_let rfl (ans_ite rfl (fun c => ?_) (fun c => ?_)))
  · have c : i < b.length := of_decide_eq_true c
    have hlt : i.toNat < b.length := by omega
    refine ans_let rfl (ans_ite rfl (fun c2 => ?_) (fun _ => ?_))
    · have c2 : i < 4000 := of_decide_eq_true c2
      simp only [List.cons_append, List.nil_append]
      refine ans_let rfl (ans_idx rfl rfl rfl i0 (List.getElem?_eq_getElem hlt) (ans_let rfl (ans_let rfl (ans_let rfl (ans_let rfl (ans_let rfl (ans_let rfl (ans_jump rfl rfl ?_))))))))
      rw [wrap_id (n := i + 1) (by omega) (by omega)]
      exact hJ (_, i + 1) ⟨by show 0 ≤ i + 1; omega, by show i + 1 ≤ 4000; omega⟩ (by show (4001 - (i + 1)).toNat < (4001 - i).toNat; omega)
    · exact ans_let rfl (ans_let rfl (ans_let rfl (ans_let rfl (ans_let rfl (ans_ret rfl ⟨_, rfl⟩)))))
  · exact ans_let rfl (ans_let rfl (ans_let rfl (ans_let rfl (ans_let rfl (ans_ret rfl ⟨_, rfl⟩)))))
end Go.Proofs.Ytecleaangfcloaa.VtFnProposes
