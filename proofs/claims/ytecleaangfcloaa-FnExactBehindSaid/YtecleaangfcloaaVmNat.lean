/- Functions whose contracts are proved by hand: bytes.Compare, slices.Grow of a nil row. Lemmas alone, no statement. -/
import Derived.Test.YtecleaangfcloaaVmFn
import Derived.Lib.BytesEntry
import Derived.Lib.Bytealg
import Derived.Tactics
import Derived.Laws.Slices
namespace Go.Vm
set_option linter.unusedVariables false
set_option linter.unusedSimpArgs false
open Go.RowKit

/-- bytes.Compare. -/
def cmpI (l m : List Int) : Int := Lib.compareBytes (Lib.bytesOf l) (Lib.bytesOf m)

def cmpB : List Dy → Option (List Dy)
  | [⟨.sl (.int .u8), l⟩, ⟨.sl (.int .u8), m⟩] => some [⟨.int .i64, cmpI l m⟩]
  | _ => none

/-- slices.Grow of a nil row. -/
def growB : List Dy → Option (List Dy)
  | [⟨.int .i64, n⟩] => if 0 ≤ n ∧ n < maxRow then some [⟨.sl (.int .u8), []⟩] else none
  | _ => none

def sgCmp : Sig := ⟨[.val, .val], [(.int .i64, .sh)], false, none, false⟩
def sgGrow : Sig := ⟨[.nil, .val], [(.sl (.int .u8), .own .sh)], false, none, false⟩

section
variable {P : Program} {sh : Nat → Prop} {w : World}

theorem byte_cells : ∀ {l : List Int} {vs : List Value} {X : List Nat} {j : Nat} {x : Int}, RepL (fun x vs F => Rep sh w (.int .u8) .sh x vs F) l vs X → l[j]? = some x → vs[j]? = some (.int .u8 x)
  | [], _, _, _, _, _, h => by simp at h
  | y :: l, vs, X, j, x, hr, h => by
    obtain ⟨v1, v2, F1, F2, rfl, rfl, ⟨rfl, _⟩, h2⟩ := hr
    cases j with
    | zero => simp at h; subst h; rfl
    | succ j => simp at h; simpa using byte_cells h2 h

/-- The bytes of a row that nobody writes. -/
theorem run_bytesOf {l : List Int} {v : Value} (h : Rep sh w (.sl (.int .u8)) .sh l [v] []) : (Extern.Bytes.bytesOf v).run P w = .ok ⟨(Lib.bytesOf l).toArray⟩ w := by
  obtain ⟨a, cap, hv, hc, _, h⟩ := h
  simp only [List.cons.injEq, and_true] at hv
  subst hv
  have he : (⟨ByteArray.empty.data ++ (Lib.bytesOf l).toArray⟩ : ByteArray) = ⟨(Lib.bytesOf l).toArray⟩ := by
    apply ByteArray.ext
    show (#[] : Array UInt8) ++ (Lib.bytesOf l).toArray = (Lib.bytesOf l).toArray
    simp
  have key : ∀ b : Addr, (∀ j x, l[j]? = some x → w.cell? (b.add j) = some (.int .u8 x)) → (Extern.Bytes.bytesOf (.slice (some b) l.length cap)).run P w = .ok ⟨(Lib.bytesOf l).toArray⟩ w := by
    intro b hb
    have hl := Lib.run_loadBytesX (P := P) w l b .empty hb
    rw [he] at hl
    exact hl
  rcases h with rfl | ⟨b, off, c, ty, fz, rfl, hb, hw, hr⟩
  · cases a with
    | none => rfl
    | some b => exact key b (by simp)
  · refine key _ (fun j x hj => ?_)
    have hx := byte_cells hr hj
    have hjl : j < l.length := (List.getElem?_eq_some_iff.1 hj).1
    rw [List.getElem?_take, if_pos (by simp [Ty.n]; exact hjl), List.getElem?_drop] at hx
    simp only [Addr.add_lit, World.cell?, hw]
    simpa using hx

theorem run_compareB {l0 l1 : List Int} {v0 v1 : Value} (h0 : Rep sh w (.sl (.int .u8)) .sh l0 [v0] []) (h1 : Rep sh w (.sl (.int .u8)) .sh l1 [v1] []) :
    (Extern.BytealgCompare.compare #[v0, v1]).run P w = .ok (.int .i64 (cmpI l0 l1)) w := by
  change Sem.run P (do pure (goInt (Extern.BytealgCompare.cmp (← Extern.Bytes.bytesOf v0) (← Extern.Bytes.bytesOf v1)))) w = _
  simp only [Sem.run_bind, Sem.run_pure, run_bytesOf h0, run_bytesOf h1, Result.andThen]
  rw [Lib.cmp_eq]
  rfl

/-- The contract of bytes.Compare, out of a walk. -/
theorem con_cmp {Bn : Fns} {f : Nat} (hB : ∀ ds, Bn f ds = cmpB ds)
    (hw : ∀ (A0 A1 : Option Addr) (n0 n1 c0 c1 : Nat) (r : Int) (w : World), (Extern.BytealgCompare.compare #[.slice A0 n0 c0, .slice A1 n1 c1]).run P w = .ok (.int .i64 r) w →
      Calls P f #[.slice A0 n0 c0, .slice A1 n1 c1] w fun e w' => e = .returned (.int .i64 r) ∧ Ext w w' []) : Con P Bn f sgCmp := by
  refine Con.of_old rfl ?_
  intro w sh args ds rs hsh hr hd
  obtain ⟨ds1, ds2, v0, us, rfl, hv, ⟨d0, rfl, vs0, h0, k0⟩, ds3, ds4, v1, us', rfl, rfl, ⟨d1, rfl, vs1, h1, k1⟩, rfl, rfl⟩ := hr
  rw [hB] at hd
  obtain ⟨τ0, l0⟩ := d0
  obtain ⟨τ1, l1⟩ := d1
  simp only [List.singleton_append, List.cons_append, List.nil_append, List.append_nil] at hd
  unfold cmpB at hd
  split at hd
  · rename_i l m heq
    simp only [List.cons.injEq, Sigma.mk.injEq, and_true] at heq
    obtain ⟨⟨rfl, hl⟩, ⟨rfl, hm⟩⟩ := heq
    obtain rfl := eq_of_heq hl
    obtain rfl := eq_of_heq hm
    simp only [Option.some.injEq] at hd
    subst hd
    have e0 : Rep sh w (.sl (.int .u8)) .sh l0 [v0] [] := by obtain ⟨a, cap, hh, _⟩ := id k0; rw [hh] at h0 k0; have h0 : v0 = _ := h0; subst h0; exact k0
    have e1 : Rep sh w (.sl (.int .u8)) .sh l1 [v1] [] := by obtain ⟨a, cap, hh, _⟩ := id k1; rw [hh] at h1 k1; have h1 : v1 = _ := h1; subst h1; exact k1
    have hrun := run_compareB (P := P) e0 e1
    obtain ⟨A0, c0, hv0, _⟩ := e0
    obtain ⟨A1, c1, hv1, _⟩ := e1
    simp only [List.cons.injEq, and_true] at hv0 hv1
    subst hv0 hv1
    have hargs : args = #[.slice A0 l0.length c0, .slice A1 l1.length c1] := by cases args; simp_all
    rw [hargs]
    refine (hw A0 A1 _ _ c0 c1 _ w hrun).mono ?_
    rintro e w' ⟨rfl, hE⟩
    exact ⟨_, sh, [], rfl, hE, fun _ h => h, fun b hb => ⟨Nat.lt_of_lt_of_le (hsh b hb) hE.size, .inl hb⟩, ⟨[.int .i64 (cmpI l0 l1)], ⟨_, _, _, _, [], [], rfl, rfl, rfl, rfl, ⟨_, rfl, rfl, rfl⟩, rfl, rfl, rfl⟩, rfl⟩, by simp, by simp⟩
  · cases hd

/-- 'append' of zeros to a nil row. -/
theorem run_append_zeros {t ti ty e : TypeId} {i : TypeInfo} {z : Value} (ht : P.underlying t = some (.slice e)) {k : IntKind} (hti : P.underlying ti = some (.int k)) (hi : P.info? e = some i) (hz : i.zero = some z)
    (hs0 : 0 < i.size) (hzs : z.cells.size = i.size) (hb : i.bytes ≤ 32768) (kx : IntKind) (m : Nat) (hm0 : 0 < m) (hm : m < maxRow) :
    (Builtin.append_ #[t, ti] ty #[.slice none 0 0, .int kx m]).run P w =
      .ok (.slice (some ⟨w.heap.size, 0, none⟩) m (grownCap w m 0 e)) (w.drew.alloc (.cells (Builtin.zeroCells z.cells m ++ Builtin.zeroCells z.cells (grownCap w m 0 e - m)) e)) := by
  unfold maxRow at hm
  have hw : IntKind.i64.wrap (m : Int) = m := by rw [IntKind.wrap_i64]; omega
  have hneg : ¬ ((m : Int) < 0) := by omega
  have hmb : m * i.bytes ≤ 2 ^ 32 * 32768 := Nat.mul_le_mul (by omega) hb
  have hbig : ¬ (281474976710656 < (m : Int) * (i.bytes : Int)) := by
    rw [← Int.natCast_mul]
    omega
  have hfit : Builtin.nextslicecap m 0 * i.bytes ≤ 281474976710656 := growslice_fits (by omega) (by omega)
  have h48' : ¬ (281474976710656 < Builtin.nextslicecap m 0 * i.bytes) := by omega
  have h63' : ¬ (9223372036854775807 < (m : Int)) := by omega
  have hmz : ¬ (m * i.size = 0) := Nat.mul_ne_zero (by omega) (by omega)
  have hm1 : ¬ (m = 0) := by omega
  simp [Builtin.append_, run_underlying ht, run_underlying hti, sizeOf, typeInfo, zeroValue, hi, hz, asInt, asIntOf, hw, hneg, hbig, h63', h48', Question.forced, newRow, grownCap, hmz, hm1, Builtin.firstCells]

theorem cut_to (t e : TypeId) (kh : IntKind) {i : TypeInfo} (ht : P.underlying t = some (.slice e)) (hi : P.info? e = some i) (A : Option Addr) (n c : Nat) (j : Int) (h0 : 0 ≤ j) (hm : j ≤ n) (hc : n ≤ c) :
    ∀ W : World, (Instr.slice t (.slice A n c) none (some (.int kh j)) none).run P W = .ok (.slice A j.toNat c) W := by
  intro W
  have hel : P.elem t = e := by simp [Program.elem, ht]
  have hu : P.underlying t = some (.slice (P.elem t)) := by rw [hel]; exact ht
  have ha : (A.map fun x => x.add 0) = A := by cases A <;> simp [Addr.add]
  rw [run_slice_h W t A n c hu kh j h0 (by omega), hel]
  simp [sizeOf, typeInfo, hi, sliced, Result.andThen, ha]

/-- The same, as an operation of a region. -/
theorem wp_append_zeros {ops : Array Oper} {rest : List Oper} {o : Oper} {a : Act} {Q : Exit → Act → World → Prop} (hgd : o.guard = none) (s x : Operand) (t ti e : TypeId) (ho : o.op = .call { callee := .builtin .append, args := #[s, x], argTypes := #[t, ti] })
    {i : TypeInfo} {z : Value} (ht : P.underlying t = some (.slice e)) {k : IntKind} (hti : P.underlying ti = some (.int k)) (hi : P.info? e = some i) (hz : i.zero = some z)
    (hs0 : 0 < i.size) (hzs : z.cells.size = i.size) (hb : i.bytes ≤ 32768) (kx : IntKind) (m : Nat) (hm0 : 0 < m) (hm : m < maxRow) (hs : a.eval s = .slice none 0 0) (hx : a.eval x = .int kx m)
    (h : wpList P ops Q rest (a.put o.dst (.slice (some ⟨w.heap.size, 0, none⟩) m (grownCap w m 0 e))) (w.drew.alloc (.cells (Builtin.zeroCells z.cells m ++ Builtin.zeroCells z.cells (grownCap w m 0 e - m)) e))) : wpList P ops Q (o :: rest) a w := by
  refine wpList_plain hgd fun K hK => ?_
  have hr := run_append_zeros (P := P) (w := w) (ty := o.type) ht hti hi hz hs0 hzs hb kx m hm0 hm
  unfold Oper.wp execOp
  simp only [ho, resolve, invoke, builtin, Sem.run_bind, Sem.run_pure, Result.andThen_ok, List.map_toArray, List.map_cons, List.map_nil, hs, hx, hr]
  exact hK _ _ h

theorem con_grow {Bn : Fns} {f : Nat} (hB : ∀ ds, Bn f ds = growB ds) (hw0 : ∀ w : World, Calls P f #[.slice none 0 0, .int .i64 0] w fun e w' => e = .returned (.slice none 0 0) ∧ Ext w w' [])
    (hw1 : ∀ (m : Nat) (w : World), 0 < m → m < maxRow → Calls P f #[.slice none 0 0, .int .i64 m] w fun e w' => ∃ c ty, e = .returned (.slice (some ⟨w.heap.size, 0, none⟩) 0 (Array.size c)) ∧ w'.heap[w.heap.size]? = some (.cells c ty) ∧ Ext w w' []) : Con P Bn f sgGrow := by
  refine Con.of_old rfl ?_
  intro w sh args ds rs hsh hr hd
  obtain ⟨ds1, ds2, v0, us, rfl, hv, ⟨rfl, rfl⟩, ds3, ds4, v1, us', rfl, rfl, ⟨d1, rfl, vs1, h1, k1⟩, rfl, rfl⟩ := hr
  rw [hB] at hd
  simp only [List.cons_append, List.nil_append, List.append_nil] at hd
  obtain ⟨τ, n⟩ := d1
  unfold growB at hd
  split at hd
  · rename_i n' heq
    simp only [List.cons.injEq, Sigma.mk.injEq, and_true] at heq
    obtain ⟨rfl, hn⟩ := heq
    obtain rfl := eq_of_heq hn
    split at hd
    · rename_i hc
      simp only [Option.some.injEq] at hd
      subst hd
      obtain ⟨hc0, hc1⟩ := hc
      obtain ⟨m, rfl⟩ := Int.eq_ofNat_of_zero_le hc0
      have hv1 : v1 = .int .i64 m := by rw [h1, k1.1]; rfl
      subst hv1
      have hargs : args = #[.slice none 0 0, .int .i64 m] := by cases args; simp_all
      rw [hargs]
      have hret : ∀ (v : Value) (X : List Nat) (w' : World), Rep sh w' (.sl (.int .u8)) (.own .sh) [] [v] X → ResRep sh w' sgGrow.rt [⟨.sl (.int .u8), []⟩] v X := fun v X w' hrep => ⟨[v], ⟨_, _, _, _, X, [], rfl, rfl, by simp, rfl, ⟨_, rfl, hrep⟩, rfl, rfl, rfl⟩, rfl⟩
      rcases Nat.eq_zero_or_pos m with rfl | hpos
      · refine (hw0 w).mono ?_
        rintro e w' ⟨rfl, hE⟩
        exact ⟨_, sh, [], rfl, hE, fun _ h => h, fun b hb => ⟨Nat.lt_of_lt_of_le (hsh b hb) hE.size, .inl hb⟩, hret _ _ _ ⟨none, 0, rfl, Nat.le_refl _, .inl ⟨rfl, rfl, rfl⟩⟩, by simp, by simp⟩
      · refine (hw1 m w hpos (Int.ofNat_lt.1 hc1)).mono ?_
        rintro e w' ⟨c, ty, rfl, hg, hE⟩
        refine ⟨_, sh, [w.heap.size], rfl, hE, fun _ h => h, fun b hb => ⟨Nat.lt_of_lt_of_le (hsh b hb) hE.size, .inl hb⟩, hret _ _ _ ⟨_, _, rfl, Nat.zero_le _, .inr ⟨w.heap.size, c, ty, (0, 0), [], rfl, rfl, hg, by simp [Ty.n], .inl rfl, by simp, rfl⟩⟩, by simp, ?_⟩
        intro b hb
        simp only [List.mem_singleton] at hb
        subst hb
        exact ⟨Nat.le_refl _, lt_of_get hg, fun hs => Nat.lt_irrefl _ (hsh _ hs)⟩
    · cases hd
  · cases hd
end
end Go.Vm
