/- Functions whose contracts are proved by hand: bytes.Compare, slices.Grow of a nil row. Lemmas alone, no statement. -/
import Derived.Test.YtecleaangfcloabVmFn
import Derived.Lib.BytesEntry
import Derived.Lib.Bytealg
namespace Go.Vm
set_option linter.unusedVariables false
set_option linter.unusedSimpArgs false
open Go.RowKit

/-- bytes.Compare. -/
def cmpI (l m : List Int) : Int := Lib.compareBytes (Lib.bytesOf l) (Lib.bytesOf m)

def cmpB : List Dy → Option (List Dy)
  | [⟨.sl (.int .u8), l⟩, ⟨.sl (.int .u8), m⟩] => some [⟨.int .i64, cmpI l m⟩]
  | _ => none

/-- slices.Grow of a nil row. -/
def growB : List Dy → Option (List Dy)
  | [⟨.int .i64, n⟩] => if 0 ≤ n ∧ n < maxRow then some [⟨.sl (.int .u8), []⟩] else none
  | _ => none

def sgCmp : Sig := ⟨[.val, .val], [(.int .i64, .sh)], false⟩
def sgGrow : Sig := ⟨[.nil, .val], [(.sl (.int .u8), .own .sh)], false⟩

section
variable {P : Program} {sh : Nat → Prop} {w : World}

theorem byte_cells : ∀ {l : List Int} {vs : List Value} {X : List Nat} {j : Nat} {x : Int}, RepL (fun x vs F => Rep sh w (.int .u8) .sh x vs F) l vs X → l[j]? = some x → vs[j]? = some (.int .u8 x)
  | [], _, _, _, _, _, h => by simp at h
  | y :: l, vs, X, j, x, hr, h => by
    obtain ⟨v1, v2, F1, F2, rfl, rfl, ⟨rfl, _⟩, h2⟩ := hr
    cases j with
    | zero => simp at h; subst h; rfl
    | succ j => simp at h; simpa using byte_cells h2 h

/-- The bytes of a row that nobody writes. -/
theorem run_bytesOf {l : List Int} {v : Value} (h : Rep sh w (.sl (.int .u8)) .sh l [v] []) : (Extern.Bytes.bytesOf v).run P w = .ok ⟨(Lib.bytesOf l).toArray⟩ w := by
  obtain ⟨a, cap, hv, hc, _, h⟩ := h
  simp only [List.cons.injEq, and_true] at hv
  subst hv
  have he : (⟨ByteArray.empty.data ++ (Lib.bytesOf l).toArray⟩ : ByteArray) = ⟨(Lib.bytesOf l).toArray⟩ := by
    apply ByteArray.ext
    show (#[] : Array UInt8) ++ (Lib.bytesOf l).toArray = (Lib.bytesOf l).toArray
    simp
  have key : ∀ b : Addr, (∀ j x, l[j]? = some x → w.cell? (b.add j) = some (.int .u8 x)) → (Extern.Bytes.bytesOf (.slice (some b) l.length cap)).run P w = .ok ⟨(Lib.bytesOf l).toArray⟩ w := by
    intro b hb
    have hl := Lib.run_loadBytesX (P := P) w l b .empty hb
    rw [he] at hl
    exact hl
  rcases h with rfl | ⟨b, off, c, ty, fz, rfl, hb, hw, hr⟩
  · cases a with
    | none => rfl
    | some b => exact key b (by simp)
  · refine key _ (fun j x hj => ?_)
    have hx := byte_cells hr hj
    have hjl : j < l.length := (List.getElem?_eq_some_iff.1 hj).1
    rw [List.getElem?_take, if_pos (by simp [Ty.n]; exact hjl), List.getElem?_drop] at hx
    simp only [Addr.add_lit, World.cell?, hw]
    simpa using hx

theorem run_compareB {l0 l1 : List Int} {v0 v1 : Value} (h0 : Rep sh w (.sl (.int .u8)) .sh l0 [v0] []) (h1 : Rep sh w (.sl (.int .u8)) .sh l1 [v1] []) :
    (Extern.BytealgCompare.compare #[v0, v1]).run P w = .ok (.int .i64 (cmpI l0 l1)) w := by
  change Sem.run P (do pure (goInt (Extern.BytealgCompare.cmp (← Extern.Bytes.bytesOf v0) (← Extern.Bytes.bytesOf v1)))) w = _
  simp only [Sem.run_bind, Sem.run_pure, run_bytesOf h0, run_bytesOf h1, Result.andThen]
  rw [Lib.cmp_eq]
  rfl

/-- The contract of bytes.Compare, out of a walk. -/
theorem con_cmp {Bn : Fns} {f : Nat} (hB : ∀ ds, Bn f ds = cmpB ds)
    (hw : ∀ (A0 A1 : Option Addr) (n0 n1 c0 c1 : Nat) (r : Int) (w : World), (Extern.BytealgCompare.compare #[.slice A0 n0 c0, .slice A1 n1 c1]).run P w = .ok (.int .i64 r) w →
      Calls P f #[.slice A0 n0 c0, .slice A1 n1 c1] w fun e w' => e = .returned (.int .i64 r) ∧ Ext w w' []) : Con P Bn f sgCmp := by
  intro w sh args ds rs hsh hr hd
  obtain ⟨ds1, ds2, v0, us, rfl, hv, ⟨d0, rfl, vs0, h0, k0⟩, ds3, ds4, v1, us', rfl, rfl, ⟨d1, rfl, vs1, h1, k1⟩, rfl, rfl⟩ := hr
  rw [hB] at hd
  obtain ⟨τ0, l0⟩ := d0
  obtain ⟨τ1, l1⟩ := d1
  simp only [List.singleton_append, List.cons_append, List.nil_append, List.append_nil] at hd
  unfold cmpB at hd
  split at hd
  · rename_i l m heq
    simp only [List.cons.injEq, Sigma.mk.injEq, and_true] at heq
    obtain ⟨⟨rfl, hl⟩, ⟨rfl, hm⟩⟩ := heq
    obtain rfl := eq_of_heq hl
    obtain rfl := eq_of_heq hm
    simp only [Option.some.injEq] at hd
    subst hd
    have e0 : Rep sh w (.sl (.int .u8)) .sh l0 [v0] [] := by obtain ⟨a, cap, hh, _⟩ := id k0; rw [hh] at h0 k0; have h0 : v0 = _ := h0; subst h0; exact k0
    have e1 : Rep sh w (.sl (.int .u8)) .sh l1 [v1] [] := by obtain ⟨a, cap, hh, _⟩ := id k1; rw [hh] at h1 k1; have h1 : v1 = _ := h1; subst h1; exact k1
    have hrun := run_compareB (P := P) e0 e1
    obtain ⟨A0, c0, hv0, _⟩ := e0
    obtain ⟨A1, c1, hv1, _⟩ := e1
    simp only [List.cons.injEq, and_true] at hv0 hv1
    subst hv0 hv1
    have hargs : args = #[.slice A0 l0.length c0, .slice A1 l1.length c1] := by cases args; simp_all
    rw [hargs]
    refine (hw A0 A1 _ _ c0 c1 _ w hrun).mono ?_
    rintro e w' ⟨rfl, hE⟩
    exact ⟨_, sh, [], rfl, hE, fun _ h => h, fun b hb => ⟨Nat.lt_of_lt_of_le (hsh b hb) hE.size, .inl hb⟩, ⟨[.int .i64 (cmpI l0 l1)], ⟨_, _, _, _, [], [], rfl, rfl, rfl, rfl, ⟨_, rfl, rfl, rfl⟩, rfl, rfl, rfl⟩, rfl⟩, by simp, by simp⟩
  · cases hd
end
end Go.Vm
