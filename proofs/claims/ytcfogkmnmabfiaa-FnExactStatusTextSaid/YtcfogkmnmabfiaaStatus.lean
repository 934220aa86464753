/- The law FnExactStatusText answers true at every number, and changes nothing that was there: its walk, by hand. No condition. -/
import Derived.Lib.ConvBytes
import Derived.Test.YtcfogkmnmabfiaaXFnExactStatusTextx0
import Derived.Test.YtcfogkmnmabfiaaXFnExactStatusTextx1
namespace Go.Proofs.Ytcfogkmnmabfiaa.XFnExactStatusText
open Go.RowKit Go.Proofs.YtcfogkmnmabfiaaW.PrintWords Go.Proofs.YtcfogkmnmabfiaaW.PrintLast Go.Proofs.YtcfogkmnmabfiaaW.PrintMore
attribute [local go_sem] max2_int min2_int max_two min_two max_three min_three max_four min_four   -- for this text's walks alone
set_option linter.unusedVariables false
set_option linter.unusedSimpArgs false



theorem conv_run {P : Program} {a : Act} {o : Oper} {src dst e : TypeId} {x : Operand} {s : ByteArray} {W : World} {u : TypeDesc} (ho : o.op = .convert src dst x) (hx : a.eval x = .string s) (hs : P.underlying src = some u) (hd : P.underlying dst = some (.slice e)) (he : P.underlying e = some (.int .u8)) :
    (execOp a.eval o).run P W = .ok (.value (.slice (some ⟨W.heap.size, 0, none⟩) s.size (grownCap W s.size 0 e))) (Lib.bytesWorld W e s) := by
  have h := Lib.run_convert_string_bytes W src dst e s hs hd he
  unfold execOp
  rw [ho]
  simp only [hx]
  simp [h]
/-- A row of bytes that a conversion made: its block has a mark of its own, behind the cells. -/
def MB (e : TypeId) (w : World) (base : Nat) (v : Value) (l : List Int) : Prop :=
  (v = .slice none 0 0 ∧ l = []) ∨ ∃ (g cap : Nat) (cs : Array Value), l ≠ [] ∧ v = .slice (some ⟨g, 0, none⟩) l.length cap ∧ base ≤ g ∧ l.length ≤ cap ∧ cap ≤ maxLen ∧ cs.size = cap ∧ w.heap[g]? = some (.cells cs e (cap, cap + 1)) ∧ cs.toList.take l.length = l.map (Value.int .u8)
theorem conv_below (W : World) (e : TypeId) (s : ByteArray) : Below W.heap.size W (Lib.bytesWorld W e s) := ⟨rfl, rfl, rfl, by rw [Lib.bytesWorld_size]; omega, fun j hj => Lib.bytesWorld_at_old W e s j hj⟩
def numsS (s : ByteArray) : List Int := s.data.toList.map fun b => (b.toNat : Int)
theorem MB_new (e : TypeId) (W : World) (s : ByteArray) (base : Nat) (hb : base ≤ W.heap.size) (hs : s.size ≤ maxLen) (h0 : 0 < s.size) : MB e (Lib.bytesWorld W e s) base (.slice (some ⟨W.heap.size, 0, none⟩) s.size (grownCap W s.size 0 e)) (numsS s) := by
  have hl : (numsS s).length = s.size := by simp [numsS]
  have hz : (Lib.bytesCells W e s).size = grownCap W s.size 0 e := by
    have h := grownCap_ge W s.size 0 e
    unfold Lib.bytesCells
    rw [Array.size_append, Array.size_map, Array.size_replicate, ByteArray.size_data]
    omega
  refine .inr ⟨W.heap.size, grownCap W s.size 0 e, Lib.bytesCells W e s, (fun z => by rw [z] at hl; simp at hl; omega), by rw [hl], hb, by rw [hl]; exact grownCap_ge _ _ _ _, grownCap_le_maxLen _ _ _ _ hs, hz, ?_, ?_⟩
  · have h := Lib.bytesWorld_at_new W e s
    rw [hz] at h
    exact h
  · rw [hl]
    unfold Lib.bytesCells
    have e1 : ((s.data.map fun b => Value.int .u8 b.toNat).toList).length = s.size := by simp
    rw [Array.toList_append, List.take_append_of_le_length (by omega), List.take_of_length_le (by omega)]
    simp [numsS]

def statusF (s : Int) : List Int := if s = 0 then numsS ⟨#[112, 97, 115, 115, 105, 110, 103]⟩ else if s = 1 then numsS ⟨#[119, 97, 114, 110, 105, 110, 103]⟩ else if s = 2 then numsS ⟨#[99, 114, 105, 116, 105, 99, 97, 108]⟩ else []
set_option maxHeartbeats 8000000 in
set_option maxRecDepth 100000 in
theorem impl_StatusText.calls (s : Int) (w : World) : Calls Try.prog 5 #[.int .i64 s] w fun e w' => ∃ v, e = .returned v ∧ MB 5 w' w.heap.size v (statusF s) ∧ Below w.heap.size w w' := by
  have hu9 := Try.underlying9
  have hu22 := Try.underlying22
  have hu5 := Try.underlying5
  have huT := Try.underlying27
  have HB := Aside0.mk (Below.refl w.heap.size w)
  by_cases h0 : 0 ≤ s
  · by_cases h2 : s ≤ 2
    · have h : s = 0 ∨ s = 1 ∨ s = 2 := by omega
      rcases h with rfl | rfl | rfl
      · go_enter Try.func5, Try.ntmps5
        go_wp2_with (first | (go_at_call 9; refine (impl_within.calls (0) 0 2 true _ (by first | decide | (unfold impl_within.f; simp <;> omega))).mono ?_; rintro e w2 ⟨rfl, ⟨nd, rfl⟩⟩; have n_ := an (below_step (by exact bel0) (show Below w.heap.size w (w.drewN nd) from by exact bel0)) trivial; clear HB; generalize w.drewN nd = w2 at *; obtain ⟨HB, -⟩ := n_) | ((with_reducible refine gate_dst (N := 10) rfl ?_); refine Kd.event_run (v := _) (w1 := _) ?hg (conv_run (s := ⟨#[112, 97, 115, 115, 105, 110, 103]⟩) (src := 9) (dst := 22) (e := 5) (x := .tmp 9) ?ho ?hx hu9 hu22 hu5) ?_; (case hg => rfl); (case ho => rfl); (case hx => rfl)))
        go_ret
        have hm := MB_new 5 (w2.alloc (.cells #[.string ⟨#[112, 97, 115, 115, 105, 110, 103]⟩, .string ⟨#[119, 97, 114, 110, 105, 110, 103]⟩, .string ⟨#[99, 114, 105, 116, 105, 99, 97, 108]⟩] 9)) ⟨#[112, 97, 115, 115, 105, 110, 103]⟩ w.heap.size (below_size (below_alloc HB.out _)) (by decide) (by decide)
        have es : statusF 0 = numsS ⟨#[112, 97, 115, 115, 105, 110, 103]⟩ := by simp [statusF]
        have ez : ((w2.alloc (.cells #[.string ⟨#[112, 97, 115, 115, 105, 110, 103]⟩, .string ⟨#[119, 97, 114, 110, 105, 110, 103]⟩, .string ⟨#[99, 114, 105, 116, 105, 99, 97, 108]⟩] 9))).heap.size = w2.heap.size + 1 := Array.size_push (xs := w2.heap) _
        have e7 : ByteArray.size ⟨#[112, 97, 115, 115, 105, 110, 103]⟩ = 7 := rfl
        rw [ez, e7] at hm
        rw [es]
        exact ⟨_, rfl, hm, below_step (below_alloc HB.out _) (conv_below _ 5 ⟨#[112, 97, 115, 115, 105, 110, 103]⟩)⟩
      · go_enter Try.func5, Try.ntmps5
        go_wp2_with (first | (go_at_call 9; refine (impl_within.calls (1) 0 2 true _ (by first | decide | (unfold impl_within.f; simp <;> omega))).mono ?_; rintro e w2 ⟨rfl, ⟨nd, rfl⟩⟩; have n_ := an (below_step (by exact bel0) (show Below w.heap.size w (w.drewN nd) from by exact bel0)) trivial; clear HB; generalize w.drewN nd = w2 at *; obtain ⟨HB, -⟩ := n_) | ((with_reducible refine gate_dst (N := 10) rfl ?_); refine Kd.event_run (v := _) (w1 := _) ?hg (conv_run (s := ⟨#[119, 97, 114, 110, 105, 110, 103]⟩) (src := 9) (dst := 22) (e := 5) (x := .tmp 9) ?ho ?hx hu9 hu22 hu5) ?_; (case hg => rfl); (case ho => rfl); (case hx => rfl)))
        go_ret
        have hm := MB_new 5 (w2.alloc (.cells #[.string ⟨#[112, 97, 115, 115, 105, 110, 103]⟩, .string ⟨#[119, 97, 114, 110, 105, 110, 103]⟩, .string ⟨#[99, 114, 105, 116, 105, 99, 97, 108]⟩] 9)) ⟨#[119, 97, 114, 110, 105, 110, 103]⟩ w.heap.size (below_size (below_alloc HB.out _)) (by decide) (by decide)
        have es : statusF 1 = numsS ⟨#[119, 97, 114, 110, 105, 110, 103]⟩ := by simp [statusF]
        have ez : ((w2.alloc (.cells #[.string ⟨#[112, 97, 115, 115, 105, 110, 103]⟩, .string ⟨#[119, 97, 114, 110, 105, 110, 103]⟩, .string ⟨#[99, 114, 105, 116, 105, 99, 97, 108]⟩] 9))).heap.size = w2.heap.size + 1 := Array.size_push (xs := w2.heap) _
        have e7 : ByteArray.size ⟨#[119, 97, 114, 110, 105, 110, 103]⟩ = 7 := rfl
        rw [ez, e7] at hm
        rw [es]
        exact ⟨_, rfl, hm, below_step (below_alloc HB.out _) (conv_below _ 5 ⟨#[119, 97, 114, 110, 105, 110, 103]⟩)⟩
      · go_enter Try.func5, Try.ntmps5
        go_wp2_with (first | (go_at_call 9; refine (impl_within.calls (2) 0 2 true _ (by first | decide | (unfold impl_within.f; simp <;> omega))).mono ?_; rintro e w2 ⟨rfl, ⟨nd, rfl⟩⟩; have n_ := an (below_step (by exact bel0) (show Below w.heap.size w (w.drewN nd) from by exact bel0)) trivial; clear HB; generalize w.drewN nd = w2 at *; obtain ⟨HB, -⟩ := n_) | ((with_reducible refine gate_dst (N := 10) rfl ?_); refine Kd.event_run (v := _) (w1 := _) ?hg (conv_run (s := ⟨#[99, 114, 105, 116, 105, 99, 97, 108]⟩) (src := 9) (dst := 22) (e := 5) (x := .tmp 9) ?ho ?hx hu9 hu22 hu5) ?_; (case hg => rfl); (case ho => rfl); (case hx => rfl)))
        go_ret
        have hm := MB_new 5 (w2.alloc (.cells #[.string ⟨#[112, 97, 115, 115, 105, 110, 103]⟩, .string ⟨#[119, 97, 114, 110, 105, 110, 103]⟩, .string ⟨#[99, 114, 105, 116, 105, 99, 97, 108]⟩] 9)) ⟨#[99, 114, 105, 116, 105, 99, 97, 108]⟩ w.heap.size (below_size (below_alloc HB.out _)) (by decide) (by decide)
        have es : statusF 2 = numsS ⟨#[99, 114, 105, 116, 105, 99, 97, 108]⟩ := by simp [statusF]
        have ez : ((w2.alloc (.cells #[.string ⟨#[112, 97, 115, 115, 105, 110, 103]⟩, .string ⟨#[119, 97, 114, 110, 105, 110, 103]⟩, .string ⟨#[99, 114, 105, 116, 105, 99, 97, 108]⟩] 9))).heap.size = w2.heap.size + 1 := Array.size_push (xs := w2.heap) _
        have e7 : ByteArray.size ⟨#[99, 114, 105, 116, 105, 99, 97, 108]⟩ = 8 := rfl
        rw [ez, e7] at hm
        rw [es]
        exact ⟨_, rfl, hm, below_step (below_alloc HB.out _) (conv_below _ 5 ⟨#[99, 114, 105, 116, 105, 99, 97, 108]⟩)⟩
    · have e : statusF s = [] := by unfold statusF; rw [if_neg (by omega), if_neg (by omega), if_neg (by omega)]
      rw [e]
      have d1 : decide (0 ≤ s) = true := decide_eq_true h0
      have d2 : decide (s ≤ 2) = false := decide_eq_false h2
      have d3 : decide (s < 0) = false := decide_eq_false (by omega)
      have d4 : decide (s > 2) = true := decide_eq_true (by omega)
      have d5 : decide (2 < s) = true := decide_eq_true (by omega)
      go_enter Try.func5, Try.ntmps5
      go_wp2_with (first | (go_at_call 9; refine (impl_within.calls (s) 0 2 false _ (by first | decide | (unfold impl_within.f; simp <;> omega))).mono ?_; rintro e w2 ⟨rfl, ⟨nd, rfl⟩⟩; have n_ := an (below_step (by exact bel0) (show Below w.heap.size w (w.drewN nd) from by exact bel0)) trivial; clear HB; generalize w.drewN nd = w2 at *; obtain ⟨HB, -⟩ := n_))
      go_ret
      exact ⟨_, rfl, .inl ⟨rfl, rfl⟩, by first | exact HB.out | exact bel0⟩
  · have e : statusF s = [] := by unfold statusF; rw [if_neg (by omega), if_neg (by omega), if_neg (by omega)]
    rw [e]
    have d3 : decide (s < 0) = true := decide_eq_true (by omega)
    go_enter Try.func5, Try.ntmps5
    go_wp2_with (first | (go_at_call 9; refine (impl_within.calls (s) 0 2 false _ (by first | decide | (unfold impl_within.f; simp <;> omega))).mono ?_; rintro e w2 ⟨rfl, ⟨nd, rfl⟩⟩; have n_ := an (below_step (by exact bel0) (show Below w.heap.size w (w.drewN nd) from by exact bel0)) trivial; clear HB; generalize w.drewN nd = w2 at *; obtain ⟨HB, -⟩ := n_))
    go_ret
    exact ⟨_, rfl, .inl ⟨rfl, rfl⟩, by first | exact HB.out | exact bel0⟩

set_option maxHeartbeats 8000000 in
set_option maxRecDepth 100000 in
theorem spec_StatusText.calls (s : Int) (w : World) : Calls Try.prog 4 #[.int .i64 s] w fun e w' => ∃ v, e = .returned v ∧ MB 5 w' w.heap.size v (statusF s) ∧ Below w.heap.size w w' := by
  have hu9 := Try.underlying9
  have hu22 := Try.underlying22
  have hu5 := Try.underlying5
  have huT := Try.underlying27
  have HB := Aside0.mk (Below.refl w.heap.size w)
  by_cases h0 : 0 ≤ s
  · by_cases h2 : s ≤ 2
    · have h : s = 0 ∨ s = 1 ∨ s = 2 := by omega
      rcases h with rfl | rfl | rfl
      · go_enter Try.func4, Try.ntmps4
        go_wp2_with (first | fail | ((with_reducible refine gate_dst (N := 13) rfl ?_); refine Kd.event_run (v := _) (w1 := _) ?hg (conv_run (s := ⟨#[112, 97, 115, 115, 105, 110, 103]⟩) (src := 9) (dst := 22) (e := 5) (x := .tmp 12) ?ho ?hx hu9 hu22 hu5) ?_; (case hg => rfl); (case ho => rfl); (case hx => rfl)))
        go_ret
        have hm := MB_new 5 (w.alloc (.cells #[.string ⟨#[112, 97, 115, 115, 105, 110, 103]⟩, .string ⟨#[119, 97, 114, 110, 105, 110, 103]⟩, .string ⟨#[99, 114, 105, 116, 105, 99, 97, 108]⟩] 9)) ⟨#[112, 97, 115, 115, 105, 110, 103]⟩ w.heap.size (below_size (below_alloc HB.out _)) (by decide) (by decide)
        have es : statusF 0 = numsS ⟨#[112, 97, 115, 115, 105, 110, 103]⟩ := by simp [statusF]
        have ez : ((w.alloc (.cells #[.string ⟨#[112, 97, 115, 115, 105, 110, 103]⟩, .string ⟨#[119, 97, 114, 110, 105, 110, 103]⟩, .string ⟨#[99, 114, 105, 116, 105, 99, 97, 108]⟩] 9))).heap.size = w.heap.size + 1 := Array.size_push (xs := w.heap) _
        have e7 : ByteArray.size ⟨#[112, 97, 115, 115, 105, 110, 103]⟩ = 7 := rfl
        rw [ez, e7] at hm
        rw [es]
        exact ⟨_, rfl, hm, below_step (below_alloc HB.out _) (conv_below _ 5 ⟨#[112, 97, 115, 115, 105, 110, 103]⟩)⟩
      · go_enter Try.func4, Try.ntmps4
        go_wp2_with (first | fail | ((with_reducible refine gate_dst (N := 13) rfl ?_); refine Kd.event_run (v := _) (w1 := _) ?hg (conv_run (s := ⟨#[119, 97, 114, 110, 105, 110, 103]⟩) (src := 9) (dst := 22) (e := 5) (x := .tmp 12) ?ho ?hx hu9 hu22 hu5) ?_; (case hg => rfl); (case ho => rfl); (case hx => rfl)))
        go_ret
        have hm := MB_new 5 (w.alloc (.cells #[.string ⟨#[112, 97, 115, 115, 105, 110, 103]⟩, .string ⟨#[119, 97, 114, 110, 105, 110, 103]⟩, .string ⟨#[99, 114, 105, 116, 105, 99, 97, 108]⟩] 9)) ⟨#[119, 97, 114, 110, 105, 110, 103]⟩ w.heap.size (below_size (below_alloc HB.out _)) (by decide) (by decide)
        have es : statusF 1 = numsS ⟨#[119, 97, 114, 110, 105, 110, 103]⟩ := by simp [statusF]
        have ez : ((w.alloc (.cells #[.string ⟨#[112, 97, 115, 115, 105, 110, 103]⟩, .string ⟨#[119, 97, 114, 110, 105, 110, 103]⟩, .string ⟨#[99, 114, 105, 116, 105, 99, 97, 108]⟩] 9))).heap.size = w.heap.size + 1 := Array.size_push (xs := w.heap) _
        have e7 : ByteArray.size ⟨#[119, 97, 114, 110, 105, 110, 103]⟩ = 7 := rfl
        rw [ez, e7] at hm
        rw [es]
        exact ⟨_, rfl, hm, below_step (below_alloc HB.out _) (conv_below _ 5 ⟨#[119, 97, 114, 110, 105, 110, 103]⟩)⟩
      · go_enter Try.func4, Try.ntmps4
        go_wp2_with (first | fail | ((with_reducible refine gate_dst (N := 13) rfl ?_); refine Kd.event_run (v := _) (w1 := _) ?hg (conv_run (s := ⟨#[99, 114, 105, 116, 105, 99, 97, 108]⟩) (src := 9) (dst := 22) (e := 5) (x := .tmp 12) ?ho ?hx hu9 hu22 hu5) ?_; (case hg => rfl); (case ho => rfl); (case hx => rfl)))
        go_ret
        have hm := MB_new 5 (w.alloc (.cells #[.string ⟨#[112, 97, 115, 115, 105, 110, 103]⟩, .string ⟨#[119, 97, 114, 110, 105, 110, 103]⟩, .string ⟨#[99, 114, 105, 116, 105, 99, 97, 108]⟩] 9)) ⟨#[99, 114, 105, 116, 105, 99, 97, 108]⟩ w.heap.size (below_size (below_alloc HB.out _)) (by decide) (by decide)
        have es : statusF 2 = numsS ⟨#[99, 114, 105, 116, 105, 99, 97, 108]⟩ := by simp [statusF]
        have ez : ((w.alloc (.cells #[.string ⟨#[112, 97, 115, 115, 105, 110, 103]⟩, .string ⟨#[119, 97, 114, 110, 105, 110, 103]⟩, .string ⟨#[99, 114, 105, 116, 105, 99, 97, 108]⟩] 9))).heap.size = w.heap.size + 1 := Array.size_push (xs := w.heap) _
        have e7 : ByteArray.size ⟨#[99, 114, 105, 116, 105, 99, 97, 108]⟩ = 8 := rfl
        rw [ez, e7] at hm
        rw [es]
        exact ⟨_, rfl, hm, below_step (below_alloc HB.out _) (conv_below _ 5 ⟨#[99, 114, 105, 116, 105, 99, 97, 108]⟩)⟩
    · have e : statusF s = [] := by unfold statusF; rw [if_neg (by omega), if_neg (by omega), if_neg (by omega)]
      rw [e]
      have d1 : decide (0 ≤ s) = true := decide_eq_true h0
      have d2 : decide (s ≤ 2) = false := decide_eq_false h2
      have d3 : decide (s < 0) = false := decide_eq_false (by omega)
      have d4 : decide (s > 2) = true := decide_eq_true (by omega)
      have d5 : decide (2 < s) = true := decide_eq_true (by omega)
      go_enter Try.func4, Try.ntmps4
      go_wp2_with (first | fail)
      go_ret
      exact ⟨_, rfl, .inl ⟨rfl, rfl⟩, by first | exact HB.out | exact bel0⟩
  · have e : statusF s = [] := by unfold statusF; rw [if_neg (by omega), if_neg (by omega), if_neg (by omega)]
    rw [e]
    have d3 : decide (s < 0) = true := decide_eq_true (by omega)
    go_enter Try.func4, Try.ntmps4
    go_wp2_with (first | fail)
    go_ret
    exact ⟨_, rfl, .inl ⟨rfl, rfl⟩, by first | exact HB.out | exact bel0⟩

theorem mset {w : World} {g : Nat} {t : TypeId} {cs : Array Value} {fr : Nat × Nat} (h : w.heap[g]? = some (.cells cs t fr)) (i : Nat) (u : Value) : (w.setCell ⟨g, i, none⟩ u).heap[g]? = some (.cells (cs.setIfInBounds i u) t fr) := by
  simp [World.setCell, Array.getElem?_modify, h]
theorem mfroz {w : World} {g cap i : Nat} {t : TypeId} {cs : Array Value} (h : w.heap[g]? = some (.cells cs t (cap, cap + 1))) (hi : i < cap) : w.frozen? ⟨g, i, none⟩ = false := by
  simp [World.frozen?, h]; omega
/-- The bytes' cells read. -/
theorem mreads {w : World} {g : Nat} {cs : Array Value} {l : List Int} {fr : Nat × Nat} (h : w.heap[g]? = some (.cells cs 5 fr)) (hl : l.length ≤ 9223372036854775807) (ht : ∀ j : Nat, j < l.length → cs[j]? = some (.int .u8 (rd l (j : Int)))) : Kd.C (Kd.int .u8) w (some ⟨g, 0, none⟩) l.length l := by
  refine ⟨rfl, hl, fun hp => ⟨_, rfl, fun j p hj => ?_⟩⟩
  have hlt : j < l.length := (List.getElem?_eq_some_iff.1 hj).1
  have hp' : rd l (j : Int) = p := by
    unfold rd
    rw [Int.toNat_natCast, List.getD_eq_getElem?_getD, hj]; rfl
  refine ⟨[.int .u8 p], rfl, rfl, fun i u hu => ?_⟩
  obtain ⟨hi, hu'⟩ := List.getElem?_eq_some_iff.1 hu
  have hi0 : i = 0 := by simp at hi; omega
  subst hi0
  have hu2 : u = .int .u8 p := by simpa using hu'.symm
  subst hu2
  have e : (Addr.add ⟨g, 0, none⟩ (j * 1 + 0)) = ⟨g, j, none⟩ := by rw [add_at]; congr 1; omega
  show w.cell? (Addr.add ⟨g, 0, none⟩ (j * 1 + 0)) = _
  rw [e, cell_of_row w g j cs 5 fr h, ht j hlt, hp']
theorem take_cells {cs : Array Value} {l : List Int} (h : cs.toList.take l.length = l.map (Value.int .u8)) : ∀ j : Nat, j < l.length → cs[j]? = some (.int .u8 (rd l (j : Int))) := by
  intro j hj
  have h1 := congrArg (fun z : List Value => z[j]?) h
  simp only [List.getElem?_take, if_pos hj, List.getElem?_map] at h1
  rw [← Array.getElem?_toList, h1]
  unfold rd
  rw [Int.toNat_natCast, List.getD_eq_getElem?_getD, List.getElem?_eq_getElem hj]; rfl
set_option maxHeartbeats 8000000 in
set_option maxRecDepth 100000 in
theorem markMB (n cap g : Nat) (cs : Array Value) (hn : n ≤ 100) (hnc : n ≤ cap) (hz : cs.size = cap) (w0 w : World) (hB : Below w0.heap.size w0 w) (hg : w0.heap.size ≤ g) (hb : w.heap[g]? = some (.cells cs 5 (cap, cap + 1))) (hu : ∀ j : Nat, j < n → ∃ u : Int, cs[j]? = some (.int .u8 u)) :
    Calls Try.prog 7 #[.slice (some ⟨g, 0, none⟩) n cap, .int .i64 1] w fun e w' => e = .returned (.int .i64 (1 + (n : Int))) ∧ (∃ cur : Array Value, w'.heap[g]? = some (.cells cur 5 (cap, cap + 1)) ∧ cur.size = cap ∧ ∀ j : Nat, j < n → cur[j]? = some (.int .u8 (1 + (j : Int)))) ∧ Below w0.heap.size w0 w' ∧ (∀ j, j < w.heap.size → j ≠ g → w'.heap[j]? = w.heap[j]?) := by
  have hu5 := Try.underlying5
  have hu22 := Try.underlying22
  have HB := Aside0.mk hB
  have HG := Aside0.mk hg
  have HH := Aside0.mk hb
  have HU := Aside0.mk hu
  have HZ := Aside0.mk hz
  clear hB hg hb hu hz
  go_enter Try.func7, Try.ntmps7
  go_wp2
  go_loopg [1, 5] (n + 1) (fun kq v1 v5 w' => ∃ (x : Int) (cur : Array Value), v1 = .int .i64 (1 + x) ∧ v5 = .int .i64 x ∧ 0 ≤ x ∧ x ≤ n ∧ Aside0 ((n : Int) < kq + x) ∧ Aside0 (w'.heap[g]? = some (.cells cur 5 (cap, cap + 1))) ∧ Aside0 (cur.size = cap) ∧ Aside0 (∀ j : Nat, j < n → ∃ u : Int, cur[j]? = some (.int .u8 u)) ∧ Aside0 (∀ j : Nat, (j : Int) < x → cur[j]? = some (.int .u8 (1 + (j : Int)))) ∧ Aside0 (Below w0.heap.size w0 w') ∧ Aside0 (∀ j, j < w.heap.size → j ≠ g → w'.heap[j]? = w.heap[j]?))
  case atStart => exact ⟨0, cs, by first | rfl | go_num, rfl, Int.le_refl _, by omega, ⟨by omega⟩, HH, HZ, HU, ⟨fun j hj => absurd hj (by omega)⟩, HB, ⟨fun _ _ _ => rfl⟩⟩
  case round =>
    clear HH HZ HU HB
    obtain ⟨x, cur, rfl, rfl, h0, h1, HK, HH, HZ, HU, HM, HB, HF⟩ := hrel
    cases gk with
    | zero => exact absurd HK.out (by omega)
    | succ k1 =>
      by_cases hlt : x < (n : Int)
      · obtain ⟨u, hu⟩ := HU.out x.toNat (by omega)
        have hx0 : wr.cell? ⟨g, x.toNat, none⟩ = some (.int .u8 u) := (cell_of_row wr g x.toNat cur 5 _ HH.out).trans hu
        have hf0 : wr.frozen? ⟨g, x.toNat, none⟩ = false := mfroz HH.out (by omega)
        have c3b0 : decide (x < (n : Int)) = true := decide_eq_true hlt
        have p5 : (0 ≤ x) = True := eq_true h0
        have q5 : (x < (n : Int)) = True := eq_true hlt
        have HL := Aside0.mk hlt
        have H0 := Aside0.mk h0
        clear hlt h0 hu
        go_wp2_with (first | ((with_reducible refine gate_store (t := 5) (p := 16) rfl ?_); refine store_event (t := 5) (p := 16) (v := ?vo) (w1 := (wr.setCell ⟨g, x.toNat, none⟩ (.int .u8 ((1 + x) % 256)))) ?hg ?ho ?hn ?hr ?_; (case ho => rfl); (case hg => rfl); (case hn => rfl); (case hr => first | (go_simp; done) | (go_simp; rfl)); intro w8 hw))
        go_roundg k1
        case measure => omega
        case rel =>
          subst hw
          have hlt := HL.out
          have h0 := H0.out
          have hxn : x.toNat < cur.size := by have := HZ.out; omega
          have em : (1 + x) % 256 = 1 + x := by omega
          refine ⟨x + 1, cur.setIfInBounds x.toNat (.int .u8 ((1 + x) % 256)), ?_, ?_, by omega, by omega, ⟨by have := HK.out; omega⟩, ⟨mset HH.out _ _⟩, ⟨by rw [Array.size_setIfInBounds]; exact HZ.out⟩, ⟨fun j hj => ?_⟩, ⟨fun j hj => ?_⟩, ⟨below_set HB.out HG.out⟩, ⟨fun j hj hne => (Below.heap_setCell wr ⟨g, x.toNat, none⟩ _ j hne).trans (HF.out j hj hne)⟩⟩
          · first | go_num | (congr 1; unfold wrap64; omega)
          · first | go_num | (congr 1; unfold wrap64; omega)
          · by_cases c : j = x.toNat
            · subst c; exact ⟨(1 + x) % 256, by simp [hxn]⟩
            · obtain ⟨u2, hu2⟩ := HU.out j hj
              exact ⟨u2, by rw [Array.getElem?_setIfInBounds_ne (by omega)]; exact hu2⟩
          · by_cases c : j = x.toNat
            · subst c
              have ej : ((x.toNat : Nat) : Int) = x := by omega
              rw [ej, ← em]
              simp [hxn]
            · rw [Array.getElem?_setIfInBounds_ne (by omega)]
              exact HM.out j (by omega)
      · have c3b0 : decide (x < (n : Int)) = false := decide_eq_false hlt
        obtain rfl : x = (n : Int) := by omega
        clear hlt
        go_wp2
        go_ret
        exact ⟨rfl, ⟨cur, HH.out, HZ.out, fun j hj => HM.out j (by omega)⟩, HB.out, HF.out⟩

def marksT (n : Nat) : List Int := (List.range n).map fun (j : Nat) => 1 + (j : Int)
theorem marksT_len (n : Nat) : (marksT n).length = n := by simp [marksT]
theorem marksT_rd (n j : Nat) (h : j < n) : rd (marksT n) (j : Int) = 1 + (j : Int) := by
  unfold rd
  rw [Int.toNat_natCast, List.getD_eq_getElem?_getD]
  simp [marksT, h]
theorem marks_cells {cur : Array Value} {n : Nat} (h : ∀ j : Nat, j < n → cur[j]? = some (.int .u8 (1 + (j : Int)))) : ∀ j : Nat, j < (marksT n).length → cur[j]? = some (.int .u8 (rd (marksT n) (j : Int))) := by
  intro j hj
  rw [marksT_len] at hj
  rw [marksT_rd n j hj]; exact h j hj
theorem MB.row {w : World} {base : Nat} {v : Value} {l : List Int} (h : MB 5 w base v l) (hne : l ≠ []) : ∃ (g cap : Nat) (cs : Array Value), v = .slice (some ⟨g, 0, none⟩) l.length cap ∧ base ≤ g ∧ l.length ≤ cap ∧ cs.size = cap ∧ w.heap[g]? = some (.cells cs 5 (cap, cap + 1)) ∧ ∀ j : Nat, j < l.length → cs[j]? = some (.int .u8 (rd l (j : Int))) := by
  rcases h with ⟨_, h⟩ | ⟨g, cap, cs, _, rfl, hb, hl, _, hz, hh, ht⟩
  · exact absurd h hne
  · exact ⟨g, cap, cs, rfl, hb, hl, hz, hh, take_cells ht⟩
set_option maxHeartbeats 8000000 in
set_option maxRecDepth 100000 in
theorem law_row (k : Nat) (a0 : Int) (l : List Int) (hs : statusF a0 = l) (h100 : l.length ≤ 100) (hne : l ≠ []) (heq : laws_eqByteS.f k l l = some true) (hheld : laws_heldByteS.f k (marksT l.length) 1 = some (1 + (l.length : Int))) (w : World) :
    Calls Try.prog 3 #[.int .i64 a0] w fun e w' => e = .returned (.bool true) ∧ Below w.heap.size w w' := by
  have f1 : decide (1 + (l.length : Int) < 0) = false := decide_eq_false (by omega)
  have HE := Aside0.mk heq
  have HL := Aside0.mk hheld
  have HS := Aside0.mk hs
  have H1 := Aside0.mk h100
  have HD := Aside0.mk hne
  have hll : l.length ≤ 9223372036854775807 := by omega
  have hlm : (marksT l.length).length ≤ 9223372036854775807 := by rw [marksT_len]; omega
  have HLL := Aside0.mk hll
  have HLM := Aside0.mk hlm
  clear heq hheld hs h100 hne hll hlm
  have T1 := Aside0.mk True.intro
  have HB := Aside0.mk (Below.refl w.heap.size w)
  go_enter Try.func3, Try.ntmps3
  go_wp2_with (first | (have Z_ := T1; clear T1; go_at_call 4; refine (spec_StatusText.calls a0 _).mono ?_; rintro e w1 ⟨v1, rfl, hm, hb⟩; rw [HS.out] at hm; obtain ⟨gw, cw, csw, rfl, hgw, hlw, hzw, hhw, htw⟩ := MB.row hm HD.out; have T2 := Aside0.mk True.intro; have n_ := an (below_step (by exact bel0) hb) trivial; clear HB hm hb Z_; obtain ⟨HB, -⟩ := n_; have HW := Aside0.mk hhw; have TW := Aside0.mk htw; clear hhw htw hzw hgw) | (have Z_ := T2; clear T2; go_at_call 5; refine (impl_StatusText.calls a0 _).mono ?_; rintro e w2 ⟨v2, rfl, hm, hb⟩; rw [HS.out] at hm; obtain ⟨gg, cg, csg, rfl, hgg, hlg, hzg, hhg, htg⟩ := MB.row hm HD.out; have T3 := Aside0.mk True.intro; have hlt := blk_lt HW.out; have n_ := an (below_step (by exact bel0) hb) (an ((hb.block gw (Nat.lt_of_lt_of_le hlt (by exact Nat.le_refl _))).trans HW.out) (an (show gw ≠ gg by omega) (an (show w.heap.size ≤ gg from Nat.le_trans (below_size (by exact bel0)) hgg) trivial))); clear HB HW hm hb Z_ hlt; obtain ⟨HB, HW, NE, GG, -⟩ := n_; have HG := Aside0.mk hhg; have TG := Aside0.mk htg; have ZG := Aside0.mk hzg; clear hhg htg hzg hgg) | (have Z_ := T3; clear T3; go_at_call 6; refine (laws_eqByteS.calls k _ _ l _ _ l true _ ?s1 ?s2 ?s3 ?s4 HE.out).mono ?_; (case s1 => exact mreads HG.out HLL.out TG.out); (case s2 => exact hlg); (case s3 => exact mreads HW.out HLL.out TW.out); (case s4 => exact hlw); rintro e w3 ⟨rfl, ⟨nd, rfl⟩⟩; have T4 := Aside0.mk True.intro; clear Z_) | (have Z_ := T4; clear T4; go_at_call 7; refine (markMB l.length cg gg csg H1.out hlg ZG.out w _ ?s1 GG.out ?s2 ?s3).mono ?_; (case s1 => exact bel0); (case s2 => exact HG.out); (case s3 => exact fun j hj => ⟨_, TG.out j hj⟩); rintro e w4 ⟨rfl, ⟨cur, hc, hz, hcm⟩, hb, hf⟩; have T5 := Aside0.mk True.intro; have hltw := blk_lt HW.out; have n_ := an hb (an ((hf gw hltw NE.out).trans HW.out) (an hc (an (marks_cells hcm) trivial))); clear HB HW HG TG hc hcm hb hf Z_ hltw hz; obtain ⟨HB, HW, HG, TG, -⟩ := n_) | (have Z_ := T5; clear T5; go_at_call 8; have hmk := marksT_len l.length; (try rw [show (Value.slice (some ⟨gg, 0, none⟩) l.length cg) = .slice (some ⟨gg, 0, none⟩) (marksT l.length).length cg by rw [hmk]]); refine (laws_heldByteS.calls k _ _ (marksT l.length) 1 _ _ ?s1 ?s2 HL.out).mono ?_; (case s1 => exact mreads HG.out HLM.out TG.out); (case s2 => rw [marksT_len]; exact hlg); rintro e w5 ⟨rfl, ⟨nd, rfl⟩⟩; have T6 := Aside0.mk True.intro; clear Z_ hmk) | (have Z_ := T6; clear T6; go_at_call 5; refine (impl_StatusText.calls a0 _).mono ?_; rintro e w6 ⟨v6, rfl, hm, hb⟩; rw [HS.out] at hm; obtain ⟨gh, ch, csh, rfl, hgh, hlh, hzh, hhh, hth⟩ := MB.row hm HD.out; have T7 := Aside0.mk True.intro; have hlt := blk_lt HW.out; have hlt2 := blk_lt HG.out; have n_ := an (below_step (by exact bel0) hb) (an ((hb.block gw hlt).trans HW.out) (an ((hb.block gg hlt2).trans HG.out) trivial)); clear HB HW HG hm hb Z_ hlt hlt2; obtain ⟨HB, HW, HG, -⟩ := n_; have HH := Aside0.mk hhh; have TH := Aside0.mk hth; clear hhh hth hzh hgh) | (have Z_ := T7; clear T7; go_at_call 6; refine (laws_eqByteS.calls k _ _ l _ _ l true _ ?s1 ?s2 ?s3 ?s4 HE.out).mono ?_; (case s1 => exact mreads HH.out HLL.out TH.out); (case s2 => exact hlh); (case s3 => exact mreads HW.out HLL.out TW.out); (case s4 => exact hlw); rintro e w3 ⟨rfl, ⟨nd, rfl⟩⟩; have T8 := Aside0.mk True.intro; clear Z_) | (have Z_ := T8; clear T8; go_at_call 8; have hmk := marksT_len l.length; (try rw [show (Value.slice (some ⟨gg, 0, none⟩) l.length cg) = .slice (some ⟨gg, 0, none⟩) (marksT l.length).length cg by rw [hmk]]); refine (laws_heldByteS.calls k _ _ (marksT l.length) 1 _ _ ?s1 ?s2 HL.out).mono ?_; (case s1 => exact mreads HG.out HLM.out TG.out); (case s2 => rw [marksT_len]; exact hlg); rintro e w5 ⟨rfl, ⟨nd, rfl⟩⟩; have T9 := Aside0.mk True.intro; clear Z_ hmk))
  go_ret
  exact ⟨by first | rfl | simp, by exact bel0⟩

theorem MB.nil {w : World} {base : Nat} {v : Value} (h : MB 5 w base v []) : v = .slice none 0 0 := by
  rcases h with ⟨h, _⟩ | ⟨g, cap, cs, hne, _⟩
  · exact h
  · exact absurd rfl hne
theorem cnil (w : World) : Kd.C (Kd.int .u8) w none ([] : List Int).length [] := ⟨rfl, by decide, fun h => absurd h (Nat.lt_irrefl 0)⟩
set_option maxHeartbeats 8000000 in
set_option maxRecDepth 100000 in
theorem law_nil (a0 : Int) (hs : statusF a0 = []) (w : World) :
    Calls Try.prog 3 #[.int .i64 a0] w fun e w' => e = .returned (.bool true) ∧ Below w.heap.size w w' := by
  have HB := Aside0.mk (Below.refl w.heap.size w)
  have HS := Aside0.mk hs
  clear hs
  have T1 := Aside0.mk True.intro
  go_enter Try.func3, Try.ntmps3
  go_wp2_with (first | (have Z_ := T1; clear T1; go_at_call 4; refine (spec_StatusText.calls a0 _).mono ?_; rintro e w2 ⟨v2, rfl, hm, hb⟩; rw [HS.out] at hm; obtain rfl := MB.nil hm; have T2 := Aside0.mk True.intro; have n_ := an (below_step (by exact bel0) hb) trivial; clear HB hm hb Z_; obtain ⟨HB, -⟩ := n_) | (have Z_ := T2; clear T2; go_at_call 5; refine (impl_StatusText.calls a0 _).mono ?_; rintro e w2 ⟨v2, rfl, hm, hb⟩; rw [HS.out] at hm; obtain rfl := MB.nil hm; have T3 := Aside0.mk True.intro; have n_ := an (below_step (by exact bel0) hb) trivial; clear HB hm hb Z_; obtain ⟨HB, -⟩ := n_) | (have Z_ := T3; clear T3; go_at_call 6; refine (laws_eqByteS.calls 5 none 0 [] none 0 [] true _ (cnil _) (Nat.le_refl _) (cnil _) (Nat.le_refl _) rfl).mono ?_; rintro e w3 ⟨rfl, ⟨nd, rfl⟩⟩; have T4 := Aside0.mk True.intro; clear Z_) | (have Z_ := T4; clear T4; go_at_call 7; refine (laws_markByteS.calls 5 (fun _ => False) (.slice none 0 0) [] 1 1 [] w _ ?s1 (Kd.R_nil _ _ _ _ _) rfl).mono ?_; (case s1 => exact bel0); rintro e w4 ⟨rfl, _, hb, _⟩; have T5 := Aside0.mk True.intro; clear HB Z_; have HB := Aside0.mk hb; clear hb) | (have Z_ := T5; clear T5; go_at_call 8; refine (laws_heldByteS.calls 5 none 0 [] 1 1 _ (cnil _) (Nat.le_refl _) rfl).mono ?_; rintro e w3 ⟨rfl, ⟨nd, rfl⟩⟩; have T6 := Aside0.mk True.intro; clear Z_) | (have Z_ := T6; clear T6; go_at_call 5; refine (impl_StatusText.calls a0 _).mono ?_; rintro e w2 ⟨v2, rfl, hm, hb⟩; rw [HS.out] at hm; obtain rfl := MB.nil hm; have T7 := Aside0.mk True.intro; have n_ := an (below_step (by exact bel0) hb) trivial; clear HB hm hb Z_; obtain ⟨HB, -⟩ := n_) | (have Z_ := T7; clear T7; go_at_call 6; refine (laws_eqByteS.calls 5 none 0 [] none 0 [] true _ (cnil _) (Nat.le_refl _) (cnil _) (Nat.le_refl _) rfl).mono ?_; rintro e w3 ⟨rfl, ⟨nd, rfl⟩⟩; have T8 := Aside0.mk True.intro; clear Z_) | (have Z_ := T8; clear T8; go_at_call 8; refine (laws_heldByteS.calls 5 none 0 [] 1 1 _ (cnil _) (Nat.le_refl _) rfl).mono ?_; rintro e w3 ⟨rfl, ⟨nd, rfl⟩⟩; have T9 := Aside0.mk True.intro; clear Z_))
  go_ret
  exact ⟨by first | rfl | simp, by exact bel0⟩
theorem status_in (a0 : Int) : statusF a0 = [] ∨ ∃ l : List Int, statusF a0 = l ∧ l.length ≤ 100 ∧ l ≠ [] ∧ laws_eqByteS.f 20 l l = some true ∧ laws_heldByteS.f 20 (marksT l.length) 1 = some (1 + (l.length : Int)) := by
  by_cases h0 : a0 = 0
  · exact .inr ⟨numsS ⟨#[112, 97, 115, 115, 105, 110, 103]⟩, by subst h0; rfl, by decide, by decide, by decide +kernel, by decide +kernel⟩
  · by_cases h1 : a0 = 1
    · exact .inr ⟨numsS ⟨#[119, 97, 114, 110, 105, 110, 103]⟩, by subst h1; rfl, by decide, by decide, by decide +kernel, by decide +kernel⟩
    · by_cases h2 : a0 = 2
      · exact .inr ⟨numsS ⟨#[99, 114, 105, 116, 105, 99, 97, 108]⟩, by subst h2; rfl, by decide, by decide, by decide +kernel, by decide +kernel⟩
      · exact .inl (by unfold statusF; rw [if_neg h0, if_neg h1, if_neg h2])
/-- The law's walk: true, whatever the number. -/
theorem law_calls (a0 : Int) (w : World) : Calls Try.prog 3 #[.int .i64 a0] w fun e w' => e = .returned (.bool true) ∧ Below w.heap.size w w' := by
  rcases status_in a0 with h | ⟨l, h1, h2, h3, h4, h5⟩
  · exact law_nil a0 h w
  · exact law_row 20 a0 l h1 h2 h3 h4 h5 w

end Go.Proofs.Ytcfogkmnmabfiaa.XFnExactStatusText
