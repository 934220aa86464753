-- Written by this session's own program (xprint.py) over the kit's print.
import Derived.Deep.RegionWith
import Derived.BigQuiet
import Derived.Shelf.Spec.SlicesInsertGrow
import Derived.Test.YtigoajblljolcaaTFnExactHeard
import Derived.Test.YtigoajblljolcaaXFnExactHeardx0
import Derived.Test.YtigoajblljolcaaXFnExactHeardx6
import Derived.Test.YtigoajblljolcaaXFnExactHeardx7
namespace Go.Proofs.Ytigoajblljolcaa.XFnExactHeard
open Go.RowKit Go.Proofs.YtigoajblljolcaaW.PrintWords Go.Proofs.YtigoajblljolcaaW.PrintLast Go.Proofs.YtigoajblljolcaaW.PrintMore
attribute [local go_sem] max2_int min2_int max_two min_two max_three min_three max_four min_four   -- for this text's walks alone
set_option linter.unusedVariables false
set_option linter.unusedSimpArgs false

/-! ### impl_Member_154: function 154 -/
section
variable {P : Program}
def over (cur : Array Value) (o : Nat) (vs : List Value) : Array Value := (cur.toList.take o ++ vs ++ cur.toList.drop (o + vs.length)).toArray
theorem over_size (cur : Array Value) (o : Nat) (vs : List Value) (h : o + vs.length ≤ cur.size) : (over cur o vs).size = cur.size := by
 unfold over
 simp only [List.size_toArray, List.length_append, List.length_take, List.length_drop, Array.length_toList]
 omega
theorem copy_rowN (sz : Nat) (w : World) (dT sT ty elem : TypeId) (g o dLen dCap : Nat) (a : Addr) (sLen sCap : Nat) (cur : Array Value) (t : TypeId) (cs : List Value)
  (hu : P.underlying dT = some (.slice elem)) (hs : (P.info? elem).map (·.size) = some sz)
  (hg : w.heap[g]? = some (.cells cur t (0, 0))) (hn : cs.length = Nat.min sLen dLen * sz)
  (hsrc : ∀ j v, cs[j]? = some v → w.cell? (a.add j) = some v) (hfit : o + cs.length ≤ cur.size) (h1 : ∀ v ∈ cs, v.oneCell' = true) :
  (Builtin.copy_ #[dT, sT] ty #[.slice (some ⟨g, o, none⟩) dLen dCap, .slice (some a) sLen sCap]).run P w = .ok (goInt (Nat.min sLen dLen)) (w.setRow g (over cur o cs)) := by
 have hl := run_loadCells_list (P := P) w a cs hsrc
 have hst := run_storeCells_at P g o t cs 0 cur w hg (by simpa using hfit) h1
 unfold over
 cases hq : P.info? elem with
 | none => simp [hq] at hs
 | some i =>
  have hi : i.size = sz := by simpa [hq] using hs
  simp only [Nat.add_zero] at hst
  simp [Builtin.copy_, run_underlying hu, Builtin.lenOf, Builtin.firstCells, sizeOf, typeInfo, hq, hi, ← hn, hl, hst]
theorem over_list (L : List Value) (p q s t : Nat) (inner vs : List Value) (hL : L.length = t) (hq : q + s ≤ t) (hp : p < q) (hin : L.take q = inner) (hvs : vs.length = s) :
  over (over L.toArray (p + s) (inner.drop p)) p vs = (inner.take p ++ vs ++ inner.drop p ++ L.drop (q + s)).toArray := by
 have hil : inner.length = q := by rw [← hin, List.length_take]; omega
 unfold over
 congr 1
 simp only [List.toList_toArray, List.length_drop, hil, hvs]
 have e1 : p + s + (q - p) = q + s := by omega
 rw [e1]
 have a1 : (L.take (p + s) ++ inner.drop p ++ L.drop (q + s)).take p = inner.take p := by
  rw [List.append_assoc, List.take_append_of_le_length (by rw [List.length_take]; omega), List.take_take, Nat.min_eq_left (by omega), ← hin, List.take_take, Nat.min_eq_left (by omega)]
 have a2 : (L.take (p + s) ++ inner.drop p ++ L.drop (q + s)).drop (p + s) = inner.drop p ++ L.drop (q + s) := by
  rw [List.append_assoc, List.drop_append_of_le_length (by rw [List.length_take]; omega), List.drop_eq_nil_of_le (by rw [List.length_take]; omega), List.nil_append]
 rw [a1, a2]
 simp only [List.append_assoc]
theorem ins_room {α : Type} (d : Kd α) {e g n c base i : Nat} {W : World} {ok : Nat → Prop} {xs : List α} {x : α} {vs : List Value} (HO : d.R e W base ok (.slice (some ⟨g, 0, none⟩) n c) xs) (hs0 : 0 < d.sz) (hi : i < n) (hroom : n + 1 ≤ c) (hv : vs.length = d.sz) (hx : ∀ w b o, d.M w b o x vs) :
  ∃ (cur : Array Value) (inner : List Value), W.heap[g]? = some (.cells cur e (0, 0)) ∧ cur.size = c * d.sz ∧ inner.length = n * d.sz ∧ cur.toList.take (n * d.sz) = inner ∧ (∀ v ∈ inner, v.oneCell' = true) ∧ c ≤ maxLen ∧ base ≤ g ∧
   d.R e ((W.setRow g (over cur ((i + 1) * d.sz) (inner.drop (i * d.sz)))).setRow g (over (over cur ((i + 1) * d.sz) (inner.drop (i * d.sz))) (i * d.sz) vs)) base ok (.slice (some ⟨g, 0, none⟩) (n + 1) c) (xs.take i ++ x :: xs.drop i) := by
 obtain ⟨hn, hnc, _⟩ := Kd.R_reads' HO
 obtain ⟨hok, inner, hown, hr⟩ := HO
 have hin : inner.length = n * d.sz := by rw [hr.1, hn]
 rcases hown.2 with ⟨hv', _⟩ | ⟨g', cap', cur, hv', hb, hh, _, hcm, hcs, htake⟩
 ·cases hv'
 injection hv' with ha _ hc
 injection ha with ha
 injection ha with hg
 subst hg; subst hc
 rw [← hn] at htake
 have hone : ∀ v ∈ inner, v.oneCell' = true := Kd.reps_one hr hs0 (fun p c hp => d.K_one (d.K_of_M hp))
 refine ⟨cur, inner, hh, hcs, hin, htake, hone, hcm, hb, ?_⟩
 have h1 : (i + 1) * d.sz = i * d.sz + d.sz := Nat.succ_mul _ _
 have h2 : (n + 1) * d.sz = n * d.sz + d.sz := Nat.succ_mul _ _
 have h3 : (n + 1) * d.sz ≤ c * d.sz := Nat.mul_le_mul_right _ hroom
 have h4 : (i + 1) * d.sz ≤ n * d.sz := Nat.mul_le_mul_right _ hi
 have hrow := over_list cur.toList (i * d.sz) (n * d.sz) d.sz (c * d.sz) inner vs (by simpa using hcs) (by omega) (by omega) htake hv
 rw [Array.toArray_toList] at hrow
 rw [setRow_setRow, h1, hrow]
 have hl2 : (inner.take (i * d.sz) ++ vs ++ inner.drop (i * d.sz)).length = (n + 1) * d.sz := by
  simp only [List.length_append, List.length_take, List.length_drop, hin, hv]
  omega
 have hlen : (xs.take i ++ x :: xs.drop i).length = n + 1 := by
  rw [List.length_append, List.length_cons, List.length_take, List.length_drop]; omega
 refine ⟨fun k hk => hok k hk, inner.take (i * d.sz) ++ vs ++ inner.drop (i * d.sz), ⟨?_, .inr ⟨g, c, _, ?_, hb, setRow_heap W g cur _ e (0, 0) hh, ?_, hcm, ?_, ?_⟩⟩, ?_⟩
 ·rw [hl2, hlen]
 ·rw [hlen]
 ·rw [hlen]; omega
 ·rw [List.size_toArray, List.length_append, hl2, List.length_drop, Array.length_toList, hcs]
  omega
 ·rw [hlen, List.take_append_of_le_length (by omega), List.take_of_length_le (by omega)]
 ·have hmv : ∀ (y : α) (cs : List Value), d.M W base (fun k => ok k ∧ some k ≠ (Value.slice (some ⟨g, 0, none⟩) n c).ownBlock) y cs → d.M (W.setRow g (inner.take (i * d.sz) ++ vs ++ inner.drop (i * d.sz) ++ cur.toList.drop (n * d.sz + d.sz)).toArray) base (fun k => ok k ∧ some k ≠ (Value.slice (some ⟨g, 0, none⟩) (n + 1) c).ownBlock) y cs := fun y cs hM =>
   d.M_mono (fun k hk => ⟨hk.1, hk.2⟩) (d.M_move (fun k hk => setRow_other W g k _ (fun e_ => hk.2 (by subst e_; rfl))) hM)
  have r1 := (Kd.reps_take (m := i) hr (by omega)).imp_ hmv
  have r2 := (Kd.reps_drop (m := i) hr).imp_ hmv
  have r3 : Reps (d.M (W.setRow g (inner.take (i * d.sz) ++ vs ++ inner.drop (i * d.sz) ++ cur.toList.drop (n * d.sz + d.sz)).toArray) base (fun k => ok k ∧ some k ≠ (Value.slice (some ⟨g, 0, none⟩) (n + 1) c).ownBlock)) d.sz [x] vs := by
   have := Reps.snoc (Reps.none (d.M (W.setRow g (inner.take (i * d.sz) ++ vs ++ inner.drop (i * d.sz) ++ cur.toList.drop (n * d.sz + d.sz)).toArray) base (fun k => ok k ∧ some k ≠ (Value.slice (some ⟨g, 0, none⟩) (n + 1) c).ownBlock)) d.sz) (hx _ _ _) hv
   simpa using this
  have := Kd.reps_append (Kd.reps_append r1 r3) r2
  simpa using this
end
section
theorem Ins.info : (Try.prog.info? 82).map (·.size) = some 3 := by kernel_rfl
theorem Ins.size : ∀ w, (Go.sizeOf 82).run Try.prog w = .ok 3 w := by intro w; kernel_rfl
theorem Ins.from_ (g n c j : Nat) (z : Int) (hz : z = (j : Int)) (hj : j ≤ n) (hc : j < c) : ∀ W : World, (Instr.slice 39 (.slice (some ⟨g, 0, none⟩) n c) (some (.int .i64 z)) none none).run Try.prog W = .ok (.slice (some ⟨g, j * 3, none⟩) (n - j) (c - j)) W := by
 intro W
 obtain ⟨i0, hi, hsz⟩ := Option.map_eq_some_iff.1 Ins.info
 have := cut_from (P := Try.prog) 39 82 .i64 Try.underlying39 hi 3 hsz (some ⟨g, 0, none⟩) n c z (by omega) (by omega) W
 rw [this]
 have e : z.toNat = j := by omega
 have h1 : ¬ c = j := by omega
 rw [e, if_neg h1]
 simp [Addr.add]
 intro h; exact h.symm
theorem Ins.upto (g n c j : Nat) (z : Int) (hz : z = (j : Int)) (hc : j ≤ c) : ∀ W : World, (Instr.slice 39 (.slice (some ⟨g, 0, none⟩) n c) none (some (.int .i64 z)) none).run Try.prog W = .ok (.slice (some ⟨g, 0, none⟩) j c) W := by
 intro W
 obtain ⟨i0, hi, hsz⟩ := Option.map_eq_some_iff.1 Ins.info
 have hel : Try.prog.elem 39 = 82 := by simp [Program.elem, Try.underlying39]
 have hu : Try.prog.underlying 39 = some (.slice (Try.prog.elem 39)) := by rw [hel]; exact Try.underlying39
 rw [run_slice_h W 39 (some ⟨g, 0, none⟩) n c hu .i64 z (by omega) (by omega), hel]
 have e : z.toNat = j := by omega
 simp [sizeOf, typeInfo, hi, sliced, Result.andThen, e, Addr.add]
theorem Ins.apart (vb vc g o lb cb : Nat) (w : World) (curv cur : Array Value) (hV : w.heap[vb]? = some (.cells curv 82 (0, 0))) (hG : w.heap[g]? = some (.cells cur 82 (0, 0))) (hne : vb ≠ g) (hs : cur.size ≠ 0) :
  (callFunc 182 #[.slice (some ⟨vb, 0, none⟩) 1 vc, .slice (some ⟨g, o, none⟩) lb cb]).run Try.prog w = .ok (.value (.bool false)) w := by
 rw [run_callFunc_extern Try.func182 (by kernel_rfl) (by kernel_rfl) (by kernel_rfl) (e := Extern.SlicesOverlaps.overlaps #[39, 39] #[4]) (by kernel_rfl),
   Lib.run_overlaps_apart w 39 4 82 Try.underlying39 3 Ins.size ⟨vb, 0, none⟩ ⟨g, o, none⟩ 1 vc lb cb hne 82 82 curv.size cur.size (by simp [World.shape?, hV]) (by simp [World.shape?, hG]) hs (by simp [World.frozen?, hV]) (by simp [World.frozen?, hV])]
 rfl
end
set_option maxHeartbeats 8000000 in
set_option maxRecDepth 100000 in
theorem Ins.shift (g c vb vc i : Nat) (l : List S82) (x : S82) (ok : Nat → Prop) (w0 w : World) (curv : Array Value) (hB : Below w0.heap.size w0 w) (HO : Kd.R k82 82 w w0.heap.size ok (.slice (some ⟨g, 0, none⟩) l.length c) l) (hi : i < l.length) (hroom : l.length + 1 ≤ c) (hvb : vb ≠ g) (hV : w.heap[vb]? = some (.cells curv 82 (0, 0))) (hV0 : curv[0]? = some (.int .i64 x.f0)) (hV1 : curv[1]? = some (.int .i64 x.f1)) (hV2 : curv[2]? = some (.int .i64 x.f2)) :
  Calls Try.prog 154 #[.slice (some ⟨g, 0, none⟩) l.length c, .int .i64 (i : Int), .slice (some ⟨vb, 0, none⟩) 1 vc] w fun e w' => e = .returned (.slice (some ⟨g, 0, none⟩) (l.length + 1) c) ∧ Kd.R k82 82 w' w0.heap.size ok (.slice (some ⟨g, 0, none⟩) (l.length + 1) c) (l.take i ++ x :: l.drop i) ∧ Below w0.heap.size w0 w' ∧ w.grownBy w' (some g) := by
 obtain ⟨cur, inner, hh, hcs, hin, htake, hone, hcm, hgb, hfin⟩ := ins_room k82 (vs := [.int .i64 x.f0, .int .i64 x.f1, .int .i64 x.f2]) (Kd.R_drew HO) (by decide) hi hroom rfl (fun w b o => k82_mkM _ _ _ x)
 simp only [show k82.sz = 3 from rfl] at hcs hin htake hfin
 have hdl : (inner.drop (i * 3)).length = (l.length - i) * 3 := by rw [List.length_drop, hin]; omega
 have hc63 : c ≤ 9223372036854775807 := by unfold maxLen at hcm; omega
 have hgw : w.heap[g]? = some (.cells cur 82 (0, 0)) := hh
 have hw1 : IntKind.i64.wrap ((l.length : Int) + (1 : Int)) = (l.length : Int) + 1 := by rw [IntKind.wrap_i64]; omega
 have hw2 : IntKind.i64.wrap ((i : Int) + (1 : Int)) = (i : Int) + 1 := by rw [IntKind.wrap_i64]; omega
 have hz2 : ¬ ((i : Int) = (l.length : Int)) := by omega
 have hz3 : ¬ ((l.length : Int) + 1 > (c : Int)) := by omega
 have hs1 := Ins.from_ g l.length c i (i : Int) rfl (by omega) (by omega)
 have hs2 := Ins.upto g l.length c (l.length + 1) ((l.length : Int) + 1) (by omega) hroom
 have hs3 := Ins.from_ g (l.length + 1) c (i + 1) ((i : Int) + 1) (by omega) (by omega) (by omega)
 have hs4 := Ins.from_ g (l.length + 1) c i (i : Int) rfl (by omega) (by omega)
 have hov := fun lb cb => Ins.apart vb vc g ((i + 1) * 3) lb cb w curv cur hV hgw hvb (by rw [hcs]; omega)
 have hcur : ∀ j v, inner[j]? = some v → cur[j]? = some v := fun j v hj => by
  rw [← htake, List.getElem?_take] at hj
  split at hj
  ·rw [← Array.getElem?_toList]; exact hj
  ·cases hj
 obtain ⟨A1, hA1⟩ : ∃ A1, A1 = over cur ((i + 1) * 3) (inner.drop (i * 3)) := ⟨_, rfl⟩
 obtain ⟨A2, hA2⟩ : ∃ A2, A2 = over A1 (i * 3) [.int .i64 x.f0, .int .i64 x.f1, .int .i64 x.f2] := ⟨_, rfl⟩
 have hA1s : A1.size = c * 3 := by rw [hA1, over_size _ _ _ (by rw [hdl, hcs]; omega), hcs]
 have hm1 : Nat.min (l.length + 1 - i) (l.length - i) = l.length - i := by simp only [Nat.min_def]; split <;> omega
 have hcp1 : ∀ ty dc sc, (Builtin.copy_ #[39, 39] ty #[.slice (some ⟨g, (i + 1) * 3, none⟩) (l.length - i) dc, .slice (some ⟨g, i * 3, none⟩) (l.length + 1 - i) sc]).run Try.prog w.drew = .ok (goInt (Nat.min (l.length + 1 - i) (l.length - i))) (w.drew.setRow g A1) := fun ty dc sc => by
  rw [hA1]
  exact copy_rowN 3 w.drew 39 39 ty 82 g ((i + 1) * 3) _ dc ⟨g, i * 3, none⟩ _ sc cur 82 (inner.drop (i * 3)) Try.underlying39 Ins.info hh (by rw [hm1, hdl])
   (fun j v hj => by
    rw [Addr.add_lit, cell_of_row w.drew g (i * 3 + j) cur 82 (0, 0) hh]
    exact hcur _ v (by rwa [List.getElem?_drop] at hj))
   (by rw [hdl, hcs]; omega) (fun v hv => hone v (List.mem_of_mem_drop hv))
 have hgW : (w.drew.setRow g A1).heap[g]? = some (.cells A1 82 (0, 0)) := setRow_heap w.drew g cur A1 82 (0, 0) hh
 have hvW : (w.drew.setRow g A1).heap[vb]? = some (.cells curv 82 (0, 0)) := (setRow_other w.drew g vb A1 hvb).trans hV
 have hm2 : Nat.min 1 (l.length + 1 - i) = 1 := by simp only [Nat.min_def]; split <;> omega
 have hcp2 : ∀ ty dc, (Builtin.copy_ #[39, 39] ty #[.slice (some ⟨g, i * 3, none⟩) (l.length + 1 - i) dc, .slice (some ⟨vb, 0, none⟩) 1 vc]).run Try.prog (w.drew.setRow g A1) = .ok (goInt (Nat.min 1 (l.length + 1 - i))) ((w.drew.setRow g A1).setRow g A2) := fun ty dc => by
  rw [hA2]
  exact copy_rowN 3 (w.drew.setRow g A1) 39 39 ty 82 g (i * 3) _ dc ⟨vb, 0, none⟩ _ vc A1 82 [.int .i64 x.f0, .int .i64 x.f1, .int .i64 x.f2] Try.underlying39 Ins.info hgW (by rw [hm2]; rfl)
   (fun j v hj => by
    rw [Addr.add_lit, Nat.zero_add, cell_of_row _ vb j curv 82 (0, 0) hvW]
    match j, hj with
    | 0, hj => rw [hV0]; exact hj
    | 1, hj => rw [hV1]; exact hj
    | 2, hj => rw [hV2]; exact hj
    | j + 3, hj => simp at hj)
   (by rw [hA1s]; simp only [List.length_cons, List.length_nil]; omega) (by simp [Value.oneCell'])
 obtain ⟨W1, hW1⟩ : ∃ W1, W1 = w.drew.setRow g A1 := ⟨_, rfl⟩
 rw [← hA1, ← hA2] at hfin
 rw [← hW1] at hcp1 hcp2 hfin
 clear hcur hA1 hA2 hA1s hgW hvW hm1 hm2 hdl htake hin hone; have HF := Aside0.mk hfin; have HBB := Aside0.mk hB; have HGB := Aside0.mk hgb; have HW1 := Aside0.mk hW1; clear hfin hB hgb hW1 HO hV hV0 hV1 hV2 hh hgw
 have mixed : Try.prog.follows .mixedOrders = true := by kernel_rfl
 go_enter Try.func154, Try.ntmps154
 go_wp2_with (simp only [hov])
 go_region_law_o (refine step_copy_runI rfl _ _ 39 39 rfl _ _ (by simp [Act.eval, Act.put]) (by simp [Act.eval, Act.put]) (hcp1 _ _ _) ?_)
 go_wp2_with (at_builtin; refine wpList_copy_runI _ rfl _ _ 39 39 rfl _ _ rfl rfl (hcp2 _ _) ?_)
 go_ret
 have hgr : w.grownBy (W1.setRow g A2) (some g) := by
  rw [HW1.out]
  exact ⟨rfl, rfl, rfl, by rw [setRow_size, setRow_size]; exact Nat.le_refl _, fun k _ hk => (setRow_other _ g k _ (fun e_ => hk (by rw [e_]))).trans ((setRow_other _ g k _ (fun e_ => hk (by rw [e_]))).trans rfl)⟩
 exact ⟨rfl, HF.out, HBB.out.grown hgr HBB.out.size (fun k hk => by injection hk with hk; subst hk; exact HGB.out), hgr⟩
section
variable {P : Program}
theorem over_list2 (ROW : Array Value) (p q s : Nat) (inner vs : List Value) (hR : q + s ≤ ROW.size) (hp : p < q) (hil : inner.length = q) (hin : ROW.toList.take p = inner.take p) (hvs : vs.length = s) :
  over (over ROW p vs) (p + s) (inner.drop p) = (inner.take p ++ vs ++ inner.drop p ++ ROW.toList.drop (q + s)).toArray := by
 unfold over
 congr 1
 have hl : (ROW.toList.take p).length = p := by rw [List.length_take, Array.length_toList]; omega
 simp only [List.toList_toArray, List.length_drop, hil, hvs]
 have e1 : p + s + (q - p) = q + s := by omega
 rw [e1]
 have a1 : (ROW.toList.take p ++ vs ++ ROW.toList.drop (p + s)).take (p + s) = ROW.toList.take p ++ vs := by
  rw [List.take_append_of_le_length (by rw [List.length_append, hl, hvs]; omega), List.take_of_length_le (by rw [List.length_append, hl, hvs]; omega)]
 have a2 : (ROW.toList.take p ++ vs ++ ROW.toList.drop (p + s)).drop (q + s) = ROW.toList.drop (q + s) := by
  rw [List.drop_append, List.drop_eq_nil_of_le (by rw [List.length_append, hl, hvs]; omega), List.nil_append, List.length_append, hl, hvs, List.drop_drop]
  congr 1; omega
 rw [a1, a2, hin]
theorem ins_new {α : Type} (d : Kd α) {e g n c base i cap : Nat} {W W1 : World} {ok : Nat → Prop} {xs : List α} {x : α} {vs : List Value} {ROW : Array Value} (HO : d.R e W base ok (.slice (some ⟨g, 0, none⟩) n c) xs) (hs0 : 0 < d.sz) (hi : i < n) (hroom : n + 1 ≤ cap) (hm : cap ≤ maxLen) (hv : vs.length = d.sz) (hx : ∀ w b o, d.M w b o x vs)
  (hbase : base ≤ W.heap.size) (hR : ROW.size = cap * d.sz) (hW : W1.heap[W.heap.size]? = some (.cells ROW e (0, 0))) (hold : ∀ k, k < W.heap.size → W1.heap[k]? = W.heap[k]?) {inner : List Value} (hinner : ∀ cur, W.heap[g]? = some (.cells cur e (0, 0)) → cur.toList.take (n * d.sz) = inner) (hRi : ROW.toList.take (i * d.sz) = inner.take (i * d.sz)) :
  d.R e ((W1.setRow W.heap.size (over ROW (i * d.sz) vs)).setRow W.heap.size (over (over ROW (i * d.sz) vs) ((i + 1) * d.sz) (inner.drop (i * d.sz)))) base (fun k => ok k ∨ W.heap.size ≤ k) (.slice (some ⟨W.heap.size, 0, none⟩) (n + 1) cap) (xs.take i ++ x :: xs.drop i) := by
 obtain ⟨hn, hnc, _⟩ := Kd.R_reads' HO
 obtain ⟨hok, inner', hown, hr⟩ := HO
 rcases hown.2 with ⟨hv', _⟩ | ⟨g', cap', cur, hv', hb, hh, _, hcm, hcs, htake⟩
 ·cases hv'
 injection hv' with ha _ hc
 injection ha with ha
 injection ha with hg
 subst hg; subst hc
 rw [← hn] at htake
 have hii : inner' = inner := by rw [← htake]; exact hinner cur hh
 subst hii
 have hin : inner'.length = n * d.sz := by rw [hr.1, hn]
 have h1 : (i + 1) * d.sz = i * d.sz + d.sz := Nat.succ_mul _ _
 have h2 : (n + 1) * d.sz = n * d.sz + d.sz := Nat.succ_mul _ _
 have h3 : (n + 1) * d.sz ≤ cap * d.sz := Nat.mul_le_mul_right _ hroom
 have h4 : (i + 1) * d.sz ≤ n * d.sz := Nat.mul_le_mul_right _ hi
 rw [setRow_setRow, h1, over_list2 ROW (i * d.sz) (n * d.sz) d.sz inner' vs (by omega) (by omega) hin hRi hv]
 have hl2 : (inner'.take (i * d.sz) ++ vs ++ inner'.drop (i * d.sz)).length = (n + 1) * d.sz := by
  simp only [List.length_append, List.length_take, List.length_drop, hin, hv]
  omega
 have hlen : (xs.take i ++ x :: xs.drop i).length = n + 1 := by
  rw [List.length_append, List.length_cons, List.length_take, List.length_drop]; omega
 refine ⟨fun k hk => .inr (by simp only [Value.ownBlock, Option.some.injEq] at hk; omega), inner'.take (i * d.sz) ++ vs ++ inner'.drop (i * d.sz), ⟨?_, .inr ⟨W.heap.size, cap, _, ?_, hbase, setRow_heap W1 _ ROW _ e (0, 0) hW, ?_, hm, ?_, ?_⟩⟩, ?_⟩
 ·rw [hl2, hlen]
 ·rw [hlen]
 ·rw [hlen]; omega
 ·rw [List.size_toArray, List.length_append, hl2, List.length_drop, Array.length_toList, hR]
  omega
 ·rw [hlen, List.take_append_of_le_length (by omega), List.take_of_length_le (by omega)]
 ·generalize (inner'.take (i * d.sz) ++ vs ++ inner'.drop (i * d.sz) ++ ROW.toList.drop (n * d.sz + d.sz)).toArray = RR
  have hmv : ∀ (y : α) (cs : List Value), d.M W base (fun k => ok k ∧ some k ≠ (Value.slice (some ⟨g, 0, none⟩) n c).ownBlock) y cs → d.M (W1.setRow W.heap.size RR) base (fun k => (ok k ∨ W.heap.size ≤ k) ∧ some k ≠ (Value.slice (some ⟨W.heap.size, 0, none⟩) (n + 1) cap).ownBlock) y cs := fun y cs hM => by
   have b1 : d.M W base (fun k => ok k ∧ k < W.heap.size) y cs := d.M_mono (fun k hk => ⟨hk.1.1, hk.2.2.1⟩) (d.M_bound hM)
   have b2 : d.M (W1.setRow W.heap.size RR) base (fun k => ok k ∧ k < W.heap.size) y cs := d.M_move (fun k hk => (setRow_other W1 _ k _ (by omega)).trans (hold k hk.2)) b1
   exact d.M_mono (fun k hk => ⟨.inl hk.1, fun e_ => by simp only [Value.ownBlock, Option.some.injEq] at e_; have := hk.2; omega⟩) b2
  have r1 := (Kd.reps_take (m := i) hr (by omega)).imp_ hmv
  have r2 := (Kd.reps_drop (m := i) hr).imp_ hmv
  have r3 : Reps (d.M (W1.setRow W.heap.size RR) base (fun k => (ok k ∨ W.heap.size ≤ k) ∧ some k ≠ (Value.slice (some ⟨W.heap.size, 0, none⟩) (n + 1) cap).ownBlock)) d.sz [x] vs := by
   have := Reps.snoc (Reps.none (d.M (W1.setRow W.heap.size RR) base (fun k => (ok k ∨ W.heap.size ≤ k) ∧ some k ≠ (Value.slice (some ⟨W.heap.size, 0, none⟩) (n + 1) cap).ownBlock)) d.sz) (hx _ _ _) hv
   simpa using this
  have := Kd.reps_append (Kd.reps_append r1 r3) r2
  simpa using this
end
set_option maxHeartbeats 8000000 in
set_option maxRecDepth 100000 in
theorem Ins.grow (g c vb vc i : Nat) (l : List S82) (x : S82) (ok : Nat → Prop) (w0 w : World) (curv : Array Value) (hB : Below w0.heap.size w0 w) (HO : Kd.R k82 82 w w0.heap.size ok (.slice (some ⟨g, 0, none⟩) l.length c) l) (hi : i < l.length) (hroom : c < l.length + 1) (hbig : l.length ≤ 1048576) (hV : w.heap[vb]? = some (.cells curv 82 (0, 0))) (hV0 : curv[0]? = some (.int .i64 x.f0)) (hV1 : curv[1]? = some (.int .i64 x.f1)) (hV2 : curv[2]? = some (.int .i64 x.f2)) :
  Calls Try.prog 154 #[.slice (some ⟨g, 0, none⟩) l.length c, .int .i64 (i : Int), .slice (some ⟨vb, 0, none⟩) 1 vc] w fun e w' => ∃ v, e = .returned v ∧ Kd.R k82 82 w' w0.heap.size (fun k => ok k ∨ w.heap.size ≤ k) v (l.take i ++ x :: l.drop i) ∧ Below w0.heap.size w0 w' ∧ w.grownBy w' none := by
 obtain ⟨hn_, hnc, hread⟩ := Kd.R_reads' HO
 obtain ⟨go, cap, hform, hgb, hgl, cur, hgw⟩ := Kd.R_form HO (by omega)
 injection hform with ha _ hc_
 injection ha with ha
 injection ha with ha
 subst ha; subst hc_
 have hown := HO.2
 obtain ⟨inner, hown1, hreps⟩ := hown
 have hin : inner.length = l.length * 3 := hreps.1
 have hone : ∀ v ∈ inner, v.oneCell' = true := Kd.reps_one hreps (by decide) (fun p c hp => k82.K_one (k82.K_of_M hp))
 have htake : cur.toList.take (l.length * 3) = inner ∧ cur.size = c * 3 := by
  rcases hown1.2 with ⟨hv', _⟩ | ⟨g', cap', cur', hv', hb', hh', _, _, hcs', htake'⟩
  ·cases hv'
  ·injection hv' with h1 _ h3
   injection h1 with h1
   injection h1 with h1
   subst h1; subst h3
   rw [hgw] at hh'
   injection hh' with hh'
   injection hh' with hh'
   subst hh'
   exact ⟨htake', hcs'⟩
 obtain ⟨htake, hcs⟩ := htake
 obtain ⟨i0, hi0, hsz⟩ := Option.map_eq_some_iff.1 Ins.info
 have hzz : (Try.prog.info? 82).map (fun i => (i.zero, i.bytes)) = some (some (.agg #[.int .i64 0, .int .i64 0, .int .i64 0]), 24) := by kernel_rfl
 rw [hi0] at hzz
 simp only [Option.map_some, Option.some.injEq, Prod.mk.injEq] at hzz
 obtain ⟨hz0, hbytes⟩ := hzz
 have hcur : ∀ j v, inner[j]? = some v → cur[j]? = some v := fun j v hj => by
  rw [← htake, List.getElem?_take] at hj
  split at hj
  ·rw [← Array.getElem?_toList]; exact hj
  ·cases hj
 have hold : (Builtin.firstCells i0.size i (.slice (some ⟨g, 0, none⟩) i c)).run Try.prog w.drew = .ok (inner.take (i * 3)).toArray w.drew := by
  rw [hsz]
  exact run_firstCells_some w.drew 3 i ⟨g, 0, none⟩ i c (inner.take (i * 3)) (by rw [List.length_take]; omega) (fun j v hj => by
   rw [Addr.add_lit, Nat.zero_add, cell_of_row w.drew g j cur 82 (0, 0) hgw]
   rw [List.getElem?_take] at hj
   split at hj
   ·exact hcur j v hj
   ·cases hj)
 have hik : i + (l.length + 1 - i) = l.length + 1 := by omega
 have hkk : (l.length : Int) + 1 - (i : Int) = ((l.length + 1 - i : Nat) : Int) := by omega
 obtain ⟨G, hG⟩ : ∃ G, G = grownCap w (l.length + 1) c 82 := ⟨_, rfl⟩
 obtain ⟨ROW, hROW⟩ : ∃ ROW : Array Value, ROW = (inner.take (i * 3)).toArray ++ Builtin.zeroCells (Value.agg #[.int .i64 0, .int .i64 0, .int .i64 0]).cells (l.length + 1 - i) ++ Builtin.zeroCells (Value.agg #[.int .i64 0, .int .i64 0, .int .i64 0]).cells (G - (l.length + 1)) := ⟨_, rfl⟩
 have hrz : ∀ ty, (Builtin.append_ #[39, 3] ty #[.slice (some ⟨g, 0, none⟩) i c, .int .i64 ((l.length : Int) + 1 - (i : Int))]).run Try.prog w = .ok (.slice (some ⟨w.heap.size, 0, none⟩) (l.length + 1) G) (w.drew.alloc (.cells ROW 82)) := fun ty => by
  have h := Lib.run_append_grow_zeros w 39 3 ty 82 i0 _ .i64 .i64 Try.underlying39 Try.underlying3 hi0 hz0 (some ⟨g, 0, none⟩) i c (inner.take (i * 3)) hold (l.length + 1 - i) (by omega) (by omega) (by omega) (by omega) (by rw [hbytes]; omega) (by rw [hbytes, hik]; exact growslice_fits hroom (by omega))
  rw [hik] at h
  rw [hkk, hROW, hG]
  exact h
 have hGn : l.length + 1 ≤ G := by rw [hG]; exact grownCap_ge w _ _ _
 have hGm : G ≤ maxLen := by rw [hG]; exact grownCap_le_maxLen w (l.length + 1) c 82 (by unfold maxLen; omega)
 have hG63 : G ≤ 9223372036854775807 := by unfold maxLen at hGm; omega
 have hRs : ROW.size = G * 3 := by
  rw [hROW]
  simp only [Array.size_append, List.size_toArray, List.length_take, size_zeroCells, hin, show (Value.agg #[.int .i64 0, .int .i64 0, .int .i64 0]).cells.size = 3 from rfl]
  omega
 have hRt : ROW.toList.take (i * 3) = inner.take (i * 3) := by
  rw [hROW, Array.toList_append, Array.toList_append, List.append_assoc, List.take_append_of_le_length (by simp [hin]; omega)]
  simp [List.take_take]
 obtain ⟨W1, hW1⟩ : ∃ W1, W1 = w.drew.alloc (.cells ROW 82) := ⟨_, rfl⟩
 have hN : W1.heap[w.heap.size]? = some (.cells ROW 82 (0, 0)) := by rw [hW1]; exact heap_alloc_new w.drew _
 have hO : ∀ k, k < w.heap.size → W1.heap[k]? = w.heap[k]? := fun k hk => by
  rw [hW1]; simp only [World.alloc, Array.getElem?_push]
  rw [if_neg (by show ¬ k = w.heap.size; omega)]; rfl
 obtain ⟨A1, hA1⟩ : ∃ A1, A1 = over ROW (i * 3) [.int .i64 x.f0, .int .i64 x.f1, .int .i64 x.f2] := ⟨_, rfl⟩
 obtain ⟨A2, hA2⟩ : ∃ A2, A2 = over A1 ((i + 1) * 3) (inner.drop (i * 3)) := ⟨_, rfl⟩
 have hfin := ins_new k82 (W1 := W1) (cap := G) (vs := [.int .i64 x.f0, .int .i64 x.f1, .int .i64 x.f2]) (ROW := ROW) HO (by decide) hi hGn hGm rfl (fun w b o => k82_mkM _ _ _ x) hB.size hRs hN hO (inner := inner) (fun cur2 h2 => by
  rw [hgw] at h2
  injection h2 with h2
  injection h2 with h2
  subst h2
  exact htake) hRt
 simp only [show k82.sz = 3 from rfl] at hfin
 rw [← hA1, ← hA2] at hfin
 have hvl : vb < w.heap.size := (Array.getElem?_eq_some_iff.1 hV).1
 have hne : vb ≠ w.heap.size := by omega
 have hng : g ≠ w.heap.size := by omega
 have hm1 : Nat.min 1 (l.length + 1 - i) = 1 := by simp only [Nat.min_def]; split <;> omega
 have hm2 : Nat.min (l.length - i) (l.length - i) = l.length - i := by simp only [Nat.min_def]; split <;> omega
 have hdl : (inner.drop (i * 3)).length = (l.length - i) * 3 := by rw [List.length_drop, hin]; omega
 have hA1s : A1.size = G * 3 := by rw [hA1, over_size _ _ _ (by rw [hRs]; simp only [List.length_cons, List.length_nil]; omega), hRs]
 have hcpA : ∀ (W : World), W.heap = W1.heap → ∀ ty dc, (Builtin.copy_ #[39, 39] ty #[.slice (some ⟨w.heap.size, i * 3, none⟩) (l.length + 1 - i) dc, .slice (some ⟨vb, 0, none⟩) 1 vc]).run Try.prog W = .ok (goInt (Nat.min 1 (l.length + 1 - i))) (W.setRow w.heap.size A1) := fun W hW ty dc => by
  rw [hA1]
  exact copy_rowN 3 W 39 39 ty 82 w.heap.size (i * 3) _ dc ⟨vb, 0, none⟩ _ vc ROW 82 [.int .i64 x.f0, .int .i64 x.f1, .int .i64 x.f2] Try.underlying39 Ins.info (by rw [hW]; exact hN) (by rw [hm1]; rfl)
   (fun j v hj => by
    rw [Addr.add_lit, Nat.zero_add, cell_of_row W vb j curv 82 (0, 0) (by rw [hW]; exact (hO vb hvl).trans hV)]
    match j, hj with
    | 0, hj => rw [hV0]; exact hj
    | 1, hj => rw [hV1]; exact hj
    | 2, hj => rw [hV2]; exact hj
    | j + 3, hj => simp at hj)
   (by rw [hRs]; simp only [List.length_cons, List.length_nil]; omega) (by simp [Value.oneCell'])
 have hNA : (W1.setRow w.heap.size A1).heap[w.heap.size]? = some (.cells A1 82 (0, 0)) := setRow_heap W1 _ ROW A1 82 (0, 0) hN
 have hGA : (W1.setRow w.heap.size A1).heap[g]? = some (.cells cur 82 (0, 0)) := (setRow_other W1 _ g A1 hng).trans ((hO g hgl).trans hgw)
 have hcpB : ∀ (W : World), W.heap = (W1.setRow w.heap.size A1).heap → ∀ ty dc sc, (Builtin.copy_ #[39, 39] ty #[.slice (some ⟨w.heap.size, (i + 1) * 3, none⟩) (l.length - i) dc, .slice (some ⟨g, i * 3, none⟩) (l.length - i) sc]).run Try.prog W = .ok (goInt (Nat.min (l.length - i) (l.length - i))) (W.setRow w.heap.size A2) := fun W hW ty dc sc => by
  rw [hA2]
  exact copy_rowN 3 W 39 39 ty 82 w.heap.size ((i + 1) * 3) _ dc ⟨g, i * 3, none⟩ _ sc A1 82 (inner.drop (i * 3)) Try.underlying39 Ins.info (by rw [hW]; exact hNA) (by rw [hm2, hdl])
   (fun j v hj => by
    rw [Addr.add_lit, cell_of_row W g (i * 3 + j) cur 82 (0, 0) (by rw [hW]; exact hGA)]
    exact hcur _ v (by rwa [List.getElem?_drop] at hj))
   (by rw [hdl, hA1s]; omega) (fun v hv => hone v (List.mem_of_mem_drop hv))
 have hw1 : IntKind.i64.wrap ((l.length : Int) + (1 : Int)) = (l.length : Int) + 1 := by rw [IntKind.wrap_i64]; omega
 have hw2 : IntKind.i64.wrap ((i : Int) + (1 : Int)) = (i : Int) + 1 := by rw [IntKind.wrap_i64]; omega
 have hw3 : IntKind.i64.wrap ((l.length : Int) + 1 - (i : Int)) = (l.length : Int) + 1 - (i : Int) := by rw [IntKind.wrap_i64]; omega
 have hz2 : ¬ ((i : Int) = (l.length : Int)) := by omega
 have hz3 : (c : Int) < (l.length : Int) + 1 := by omega
 have hs1 := Ins.from_ g l.length c i (i : Int) rfl (by omega) (by omega)
 have hs2 := Ins.upto g l.length c i (i : Int) rfl (by omega)
 have hs3 := Ins.from_ w.heap.size (l.length + 1) G i (i : Int) rfl (by omega) (by omega)
 have hs4 := Ins.from_ w.heap.size (l.length + 1) G (i + 1) ((i : Int) + 1) (by omega) (by omega) (by omega)
 have HF := Aside0.mk hfin; have HBB := Aside0.mk hB; have HW1 := Aside0.mk hW1; have HHO := Aside0.mk hO; subst hW1; clear hfin hB HO hread hown1 hreps hin hone htake hcs hcur hold hkk hik hROW hG hRs hRt hN hO hA1 hA2 hm1 hm2 hdl hA1s hNA hGA hgw hV hV0 hV1 hV2 hi0 hsz hz0 hbytes
 have hE1 : ((w.alloc (.cells ROW 82)).drew).heap = (w.drew.alloc (.cells ROW 82)).heap := rfl
 have hE2 : ((((w.alloc (.cells ROW 82)).drew).setRow w.heap.size A1).drew).heap = ((w.drew.alloc (.cells ROW 82)).setRow w.heap.size A1).heap := rfl
 have mixed : Try.prog.follows .mixedOrders = true := by kernel_rfl
 go_enter Try.func154, Try.ntmps154
 go_wp2_with (first
  | (at_builtin; refine Lib.wpList_append_run _ rfl _ _ _ _ rfl _ _ rfl rfl _ _ (hrz _) ?_)
  | (at_builtin; refine wpList_copy_runI _ rfl _ _ 39 39 rfl _ _ rfl rfl (hcpA _ hE1 _ _) ?_))
 go_region_law_o (refine step_copy_runI rfl _ _ 39 39 rfl (.slice (some ⟨w.heap.size, (i + 1) * 3, none⟩) (l.length - i) (G - (i + 1))) (.slice (some ⟨g, i * 3, none⟩) (l.length - i) (c - i)) (by simp [Act.eval, Act.put]) (by simp [Act.eval, Act.put]) (hcpB _ hE2 3 (G - (i + 1)) (c - i)) ?_)
 go_wp2
 go_ret
 have hgr : w.grownBy (((((w.alloc (.cells ROW 82)).drew).setRow w.heap.size A1).drew).setRow w.heap.size A2) none := ⟨rfl, rfl, rfl, by
  rw [setRow_size]
  show w.heap.size ≤ (((w.alloc (.cells ROW 82)).drew).setRow w.heap.size A1).heap.size
  rw [setRow_size]
  show w.heap.size ≤ (w.heap.push _).size
  rw [Array.size_push]; omega, fun k hk _ => (setRow_other _ _ k _ (by omega)).trans ((setRow_other _ _ k _ (by omega)).trans (HHO.out k hk))⟩
 exact ⟨.slice (some ⟨w.heap.size, 0, none⟩) (l.length + 1) G, rfl, Kd.R_move HF.out (fun k _ => rfl), HBB.out.grown hgr HBB.out.size (fun k hk => by cases hk), hgr⟩
set_option maxHeartbeats 8000000 in
set_option maxRecDepth 100000 in
theorem Ins.end_ (u : Value) (vb vc : Nat) (l : List S82) (x : S82) (ok : Nat → Prop) (w0 w : World) (curv : Array Value) (hB : Below w0.heap.size w0 w) (HO : Kd.R k82 82 w w0.heap.size ok u l) (hfr : ∀ k, w.heap.size ≤ k → ok k) (hbig : l.length ≤ 1048576) (hvx : Kd.C k82 w (some ⟨vb, 0, none⟩) 1 [x]) :
  Calls Try.prog 154 #[u, .int .i64 (l.length : Int), .slice (some ⟨vb, 0, none⟩) 1 vc] w fun e w' => ∃ v, e = .returned v ∧ Kd.R k82 82 w' w0.heap.size ok v (l ++ [x]) ∧ Below w0.heap.size w0 w' ∧ w.grownBy w' u.ownBlock := by
 have hinfo : (Try.prog.info? 82).map (fun i => (i.zero, i.size, i.bytes)) = some (some (.agg #[.int .i64 0, .int .i64 0, .int .i64 0]), k82.sz, 24) := by kernel_rfl
 obtain ⟨i0, hi0, hsz⟩ := Option.map_eq_some_iff.1 Ins.info
 obtain ⟨A, c, rfl⟩ := Kd.R_slice HO
 obtain ⟨hn_, hnc, _⟩ := Kd.R_reads' HO
 have hs1 := cut_from (P := Try.prog) 39 82 .i64 Try.underlying39 hi0 3 hsz A l.length c (l.length : Int) (by omega) (by omega)
 have HOO := Aside0.mk HO; have HBB := Aside0.mk hB; have HV := Aside0.mk hvx; have HF := Aside0.mk hfr; clear HO hB hvx hfr hi0 hsz
 have mixed : Try.prog.follows .mixedOrders = true := by kernel_rfl
 go_enter Try.func154, Try.ntmps154
 go_wp2_with (at_builtin; refine Kd.R_append_rows k82 (w0 := w0) w0.heap.size rfl (.tmp 23) (.tmp 24) 39 82 (.agg #[.int .i64 0, .int .i64 0, .int .i64 0]) 24 rfl Try.underlying39 hinfo rfl (by decide) (by decide) (.slice A l.length c) l [x] (some ⟨vb, 0, none⟩) 1 vc ok (fun _ => False) rfl rfl HOO.out HV.out (fun _ _ h => h) (fun _ h => h.elim) HF.out HBB.out HBB.out.size (by omega) ?_; intro v1 w1 ho hb hg hn; have HO1 := Aside0.mk ho; have HB1 := Aside0.mk hb; have HG1 := Aside0.mk hg; clear ho hb hg hn)
 all_goals (go_ret; exact ⟨_, rfl, HO1.out, HB1.out, by have hg_ := HG1.out; clear HG1; cases A <;> exact hg_⟩)
def impl_Member_154.f (l0 : List S82) (a1 : Int) (l2 : List S82) : Option (List S82) := if 0 ≤ a1 then (if a1 ≤ (l0.length : Int) then (if l2.length = 1 then (if l0.length ≤ 1048576 then (some (l0.take a1.toNat ++ l2 ++ l0.drop a1.toNat)) else (none)) else (none)) else (none)) else (none)
set_option maxHeartbeats 8000000 in
set_option maxRecDepth 100000 in
theorem impl_Member_154.calls (P0_ : Nat → Prop) (u9000_ : Value) (l0 : List S82) (a1 : Int) (P2_ : Nat → Prop) (u9001_ : Value) (l2 : List S82) (r : List S82) (w0 w : World) (hB : Below w0.heap.size w0 w) (ho0 : Kd.R k82 82 w w0.heap.size P0_ u9000_ l0) (hp0_2 : ∀ k_, P0_ k_ → ¬ P2_ k_) (ho2 : Kd.R k82 82 w w0.heap.size P2_ u9001_ l2) (hp2_0 : ∀ k_, P2_ k_ → ¬ P0_ k_) (h : impl_Member_154.f l0 a1 l2 = some r) :
  Calls Try.prog 154 #[u9000_, .int .i64 a1, u9001_] w fun e w' => ∃ v0_ : Value, e = .returned (v0_) ∧ Kd.R k82 82 w' w0.heap.size (fun k_ => ((P0_ k_ ∨ P2_ k_) ∨ w.heap.size ≤ k_)) v0_ r ∧ Below w0.heap.size w0 w' ∧ Kept w w' (fun k_ => P0_ k_ ∨ P2_ k_) := by
 unfold impl_Member_154.f at h
 by_cases h0 : 0 ≤ a1
 ·rw [if_pos h0] at h
  by_cases h1 : a1 ≤ (l0.length : Int)
  ·rw [if_pos h1] at h
   by_cases h2 : l2.length = 1
   ·rw [if_pos h2] at h
    by_cases h3 : l0.length ≤ 1048576
    ·rw [if_pos h3] at h
     obtain rfl := Option.some.inj h
     obtain ⟨x, rfl⟩ : ∃ x, l2 = [x] := by
      match l2, h2 with
      | [x], _ => exact ⟨x, rfl⟩
     obtain ⟨i, rfl⟩ : ∃ i : Nat, a1 = (i : Int) := ⟨a1.toNat, by omega⟩
     obtain ⟨vb, vc, rfl, _, _, curv, hV⟩ := Kd.R_form ho2 (by simp)
     obtain ⟨ce, _, hM, hcc, _⟩ := Kd.R_elem ho2 z82 (0 : Int) (by decide) (by simp)
     obtain rfl := k82_openM hM
     have hce : ∀ j v, w.cell? ⟨vb, (0 : Int).toNat * 3 + j, none⟩ = some v → curv[j]? = some v := fun j v hj => by
      rw [cell_of_row w vb _ curv 82 (0, 0) hV] at hj
      simpa using hj
     have hV0 : curv[0]? = some (.int .i64 x.f0) := hce 0 _ (hcc 0 _ rfl)
     have hV1 : curv[1]? = some (.int .i64 x.f1) := hce 1 _ (hcc 1 _ rfl)
     have hV2 : curv[2]? = some (.int .i64 x.f2) := hce 2 _ (hcc 2 _ rfl)
     have hPv := ho2.1 vb rfl
     have hlist : l0.take i ++ [x] ++ l0.drop i = l0.take i ++ x :: l0.drop i := by simp
     have ho0' : Kd.R k82 82 w w0.heap.size (fun k_ => ((P0_ k_ ∨ P2_ k_) ∨ w.heap.size ≤ k_)) u9000_ l0 := Kd.R_mono ho0 (fun k hk => .inl (.inl hk))
     have hti : ((i : Int)).toNat = i := rfl
     rw [hti, hlist]
     by_cases hi : i = l0.length
     ·subst hi
      have hx := (Kd.R_reads' ho2).2.2
      have hl2 : l0.take l0.length ++ x :: l0.drop l0.length = l0 ++ [x] := by simp
      rw [hl2]
      refine (Ins.end_ u9000_ vb vc l0 x _ w0 w curv hB ho0' (fun k hk => .inr hk) h3 hx).mono ?_
      rintro e w' ⟨v, rfl, hr, hb, hg⟩
      exact ⟨v, rfl, hr, hb, Kept.of_grown hg (Kept.refl w _) (fun k e_ => .inl (.inl (ho0.1 k e_)))⟩
     ·obtain ⟨g, c, rfl, _, _, cur, hG⟩ := Kd.R_form ho0 (by omega)
      have hPg := ho0.1 g rfl
      have hne : vb ≠ g := fun e_ => hp0_2 g hPg (e_ ▸ hPv)
      by_cases hc : l0.length + 1 ≤ c
      ·refine (Ins.shift g c vb vc i l0 x _ w0 w curv hB ho0' (by omega) hc hne hV hV0 hV1 hV2).mono ?_
       rintro e w' ⟨rfl, hr, hb, hg⟩
       exact ⟨_, rfl, hr, hb, Kept.of_grown hg (Kept.refl w _) (fun k e_ => .inl (.inl (by injection e_ with e_; subst e_; exact hPg)))⟩
      ·refine (Ins.grow g c vb vc i l0 x _ w0 w curv hB ho0' (by omega) (by omega) h3 hV hV0 hV1 hV2).mono ?_
       rintro e w' ⟨v, rfl, hr, hb, hg⟩
       exact ⟨v, rfl, Kd.R_mono hr (fun k hk => hk.elim id .inr), hb, Kept.of_grown hg (Kept.refl w _) (fun k e_ => by cases e_)⟩
    ·rw [if_neg h3] at h; exact absurd h (by simp)
   ·rw [if_neg h2] at h; exact absurd h (by simp)
  ·rw [if_neg h1] at h; exact absurd h (by simp)
 ·rw [if_neg h0] at h; exact absurd h (by simp)

/-! ### impl_Beats: function 155 -/
def impl_Beats.f (a0_0 : Int) (a0_1 : Int) (a0_2 : Int) (a1_0 : Int) (a1_1 : Int) (a1_2 : Int) : Option (Bool) := if a0_0 = a1_0 then (if a0_2 > a1_2 then (some true) else (if a0_2 = a1_2 then (some (decide (a0_1 > a1_1))) else (some false))) else (some false)
set_option maxHeartbeats 8000000 in
set_option maxRecDepth 100000 in
theorem impl_Beats.calls (a0_0 : Int) (a0_1 : Int) (a0_2 : Int) (a1_0 : Int) (a1_1 : Int) (a1_2 : Int) (r : Bool) (w : World) (h : impl_Beats.f a0_0 a0_1 a0_2 a1_0 a1_1 a1_2 = some r) :
  Calls Try.prog 155 #[.agg #[.int .i64 a0_0, .int .i64 a0_1, .int .i64 a0_2], .agg #[.int .i64 a1_0, .int .i64 a1_1, .int .i64 a1_2]] w fun e w' => e = .returned (.bool r) ∧ Below w.heap.size w w' := by
 have hu82 := Try.underlying82
 have HB := Aside0.mk (Below.refl w.heap.size w)
 have H : (if a0_0 = a1_0 then (if a0_2 > a1_2 then (some true) else (if a0_2 = a1_2 then (some (decide (a0_1 > a1_1))) else (some false))) else (some false)) = some r := h
 clear h; go_enter Try.func155, Try.ntmps155
 replace H := Aside0.mk H
 go_wp2_with (first | ((with_reducible refine gate_dst (N := 2) rfl ?_); refine box_event ?hg (N := 2) ?hd (cs := #[.int .i64 a0_0, .int .i64 a0_1, .int .i64 a0_2]) (t := 82) ?hr ?_; (case hd => rfl); (case hg => rfl); (case hr => first | (go_simp; done) | (go_simp; rfl)); intro gb241 hg w3 hbox hb; have n_ := an (below_step (by exact bel0) hb) (an (hbox) (an ((by rw [hg]; exact (below_size (by exact bel0)) : w.heap.size ≤ gb241)) (an ((by rw [hg]; exact (below_size (by exact bel0)) : w.heap.size ≤ gb241)) (trivial)))); clear HB; obtain ⟨HB, BK241, GW241, GE241, -⟩ := n_; clear hb hbox hg) | ((with_reducible refine gate_dst (N := 3) rfl ?_); refine box_event ?hg (N := 3) ?hd (cs := #[.int .i64 a1_0, .int .i64 a1_1, .int .i64 a1_2]) (t := 82) ?hr ?_; (case hd => rfl); (case hg => rfl); (case hr => first | (go_simp; done) | (go_simp; rfl)); intro gb242 hg w4 hbox hb; have n_ := an (blk_below (blk_nw BK241.out) hb) (an (below_step (by exact bel0) hb) (an (hbox) (an ((by rw [hg]; exact (below_size (by exact bel0)) : w.heap.size ≤ gb242)) (an ((by rw [hg]; exact (below_size (by exact bel0)) : w.heap.size ≤ gb242)) (an ((by rw [hg]; exact Nat.ne_of_lt (blk_lt (blk_nw BK241.out)) : gb241 ≠ gb242)) (an ((by rw [hg]; exact Nat.ne_of_gt (blk_lt (blk_nw BK241.out)) : gb242 ≠ gb241)) (trivial))))))); clear BK241 HB; obtain ⟨BK241, HB, BK242, GW242, GE242, NB241_242, NB242_241, -⟩ := n_; clear hb hbox hg; have hnb5 := NB241_242.out; have hnc5 := NB242_241.out; obtain ⟨hcz6_0, hcz6_1, hcz6_2⟩ := blkz3 BK241.out; have hfz6_0 := blkf BK241.out; obtain ⟨hcz7_0, hcz7_1, hcz7_2⟩ := blkz3 BK242.out; have hfz7_0 := blkf BK242.out; refine Stop.out ?_))
 refine Stop.mk ?_
 replace H := H.out
 by_cases c8 : a0_0 = a1_0
 ·rw [if_pos c8] at H; have c8b0 : (a0_0 == a1_0) = true := beq_iff_eq.mpr c8; have c8b1 : (a0_0 != a1_0) = false := bne_eq_false_iff_eq.mpr c8; clear c8
  by_cases c9 : a0_2 > a1_2
  ·rw [if_pos c9] at H; have c9b0 : decide (a1_2 < a0_2) = true := decide_eq_true c9; clear c9; (try simp only [c9b0])
   obtain rfl := Option.some.inj H
   have hnb10 := NB241_242.out; have hnc10 := NB242_241.out; obtain ⟨hcz11_0, hcz11_1, hcz11_2⟩ := blkz3 BK241.out; have hfz11_0 := blkf BK241.out; obtain ⟨hcz12_0, hcz12_1, hcz12_2⟩ := blkz3 BK242.out; have hfz12_0 := blkf BK242.out
   go_wp2
   go_ret
   exact ⟨by first | rfl | (simp [errW_none, errW_some] <;> rfl) | (simp [*, errW_none, errW_some] <;> rfl), by exact bel0⟩
  ·rw [if_neg c9] at H; have c9b0 : decide (a1_2 < a0_2) = false := decide_eq_false c9; clear c9; (try simp only [c9b0])
   by_cases c13 : a0_2 = a1_2
   ·rw [if_pos c13] at H; have c13b0 : (a0_2 == a1_2) = true := beq_iff_eq.mpr c13; have c13b1 : (a0_2 != a1_2) = false := bne_eq_false_iff_eq.mpr c13; clear c13
    obtain rfl := Option.some.inj H
    have hnb14 := NB241_242.out; have hnc14 := NB242_241.out; obtain ⟨hcz15_0, hcz15_1, hcz15_2⟩ := blkz3 BK241.out; have hfz15_0 := blkf BK241.out; obtain ⟨hcz16_0, hcz16_1, hcz16_2⟩ := blkz3 BK242.out; have hfz16_0 := blkf BK242.out
    go_wp2
    go_ret
    exact ⟨by first | rfl | (simp [errW_none, errW_some] <;> rfl) | (simp [*, errW_none, errW_some] <;> rfl), by exact bel0⟩
   ·rw [if_neg c13] at H; have c13b0 : (a0_2 == a1_2) = false := beq_eq_false_iff_ne.mpr c13; have c13b1 : (a0_2 != a1_2) = true := bne_iff_ne.mpr c13
    obtain rfl := Option.some.inj H
    have hnb17 := NB241_242.out; have hnc17 := NB242_241.out; obtain ⟨hcz18_0, hcz18_1, hcz18_2⟩ := blkz3 BK241.out; have hfz18_0 := blkf BK241.out; obtain ⟨hcz19_0, hcz19_1, hcz19_2⟩ := blkz3 BK242.out; have hfz19_0 := blkf BK242.out
    go_wp2
    go_ret
    exact ⟨by first | rfl | (simp [errW_none, errW_some] <;> rfl) | (simp [*, errW_none, errW_some] <;> rfl), by exact bel0⟩
 ·rw [if_neg c8] at H; have c8b0 : (a0_0 == a1_0) = false := beq_eq_false_iff_ne.mpr c8; have c8b1 : (a0_0 != a1_0) = true := bne_iff_ne.mpr c8
  obtain rfl := Option.some.inj H
  go_wp2
  go_ret
  exact ⟨by first | rfl | (simp [errW_none, errW_some] <;> rfl) | (simp [*, errW_none, errW_some] <;> rfl), by exact bel0⟩

/-! ### impl_Table_hear: function 115 -/
theorem lit1 (W : World) (x : S82) (base : Nat) (hb : base ≤ W.heap.size) : Kd.R k82 82 (W.alloc (.cells #[.int .i64 x.f0, .int .i64 x.f1, .int .i64 x.f2] 82)) base (fun k => k = W.heap.size) (.slice (some ⟨W.heap.size, 0, none⟩) 1 1) [x] := by
 refine ⟨fun k hk => by simp only [Value.ownBlock, Option.some.injEq] at hk; exact hk.symm, [.int .i64 x.f0, .int .i64 x.f1, .int .i64 x.f2], ⟨rfl, .inr ⟨W.heap.size, 1, _, rfl, hb, heap_alloc_new W _, Nat.le_refl _, by unfold maxLen; omega, rfl, rfl⟩⟩, ?_⟩
 exact Reps.c3 (k82_mkM _ _ _ x) (Reps.none _ _)
def hearM (s : Int) (y : S82) (b0 b1 b2 : Int) : S82 := if b0 = s then (if b2 < 1000 then (if y.f1 = 0 then (if b1 = 0 then ⟨b0, b1, b2⟩ else ⟨y.f0, y.f1, wrap64 (b2 + 1)⟩) else (if y.f1 = 3 then ⟨y.f0, y.f1, b2⟩ else ⟨b0, b1, b2⟩)) else ⟨b0, b1, b2⟩) else ⟨b0, b1, b2⟩
def impl_Table_hear.f (k : Nat) (a0_0 : Int) (l0_1 : List S82) (a1_0 a1_1 a1_2 : Int) : Option (Bool × Int × List S82) := (impl_Table_member.f k a0_0 l0_1 a1_0).bind fun m => (if m.2 = true then (if 0 ≤ m.1 then (if m.1 < (l0_1.length : Int) then ((impl_Beats.f a1_0 a1_1 a1_2 (rd_T82 l0_1 m.1).f0 (rd_T82 l0_1 m.1).f1 (rd_T82 l0_1 m.1).f2).bind fun t => (if t = true then (some (true, a0_0, l0_1.set m.1.toNat (hearM a0_0 (rd_T82 l0_1 m.1) a1_0 a1_1 a1_2))) else (some (false, a0_0, l0_1)))) else (none)) else (none)) else ((impl_Member_154.f l0_1 m.1 [(⟨a1_0, a1_1, a1_2⟩ : S82)]).bind fun l' => (some (true, a0_0, l'))))
theorem impl_Table_hear.mono : ∀ a0 a1 a2 a3 a4 k, LeO (impl_Table_hear.f k a0 a1 a2 a3 a4) (impl_Table_hear.f (k + 1) a0 a1 a2 a3 a4) := by
 intro a0 a1 a2 a3 a4 k
 unfold impl_Table_hear.f
 exact LeO.bind (impl_Table_member.mono _ _ _ _) (fun m => LeO.refl _)
set_option maxHeartbeats 8000000 in
set_option maxRecDepth 100000 in
theorem impl_Table_hear.calls (k : Nat) (g : Nat) (a0_0 : Int) (P0_1_ : Nat → Prop) (u9000_ : Value) (l0_1 : List S82) (a1_0 a1_1 a1_2 : Int) (r1 : Bool) (r2 : Int) (r3 : List S82) (w0 w : World) (hB : Below w0.heap.size w0 w) (hbx : w.heap[g]? = some (.cells #[.int .i64 a0_0, u9000_] 41 (0, 0))) (hgx : w0.heap.size ≤ g) (ho0_1 : Kd.R k82 82 w w0.heap.size P0_1_ u9000_ l0_1) (h : impl_Table_hear.f k a0_0 l0_1 a1_0 a1_1 a1_2 = some (r1, r2, r3)) :
  Calls Try.prog 115 #[.pointer (some ⟨g, 0, none⟩), .agg #[.int .i64 a1_0, .int .i64 a1_1, .int .i64 a1_2]] w fun e w' => e = .returned (.bool r1) ∧ ∃ v2_ : Value, Kd.R k82 82 w' w0.heap.size (fun k_ => (P0_1_ k_ ∨ w.heap.size ≤ k_)) v2_ r3 ∧ w'.heap[g]? = some (.cells #[.int .i64 r2, v2_] 41 (0, 0)) ∧ Below w0.heap.size w0 w' ∧ Kept w w' (fun k_ => (P0_1_ k_) ∨ k_ = g) := by
 have hu41 := Try.underlying41
 have hu82 := Try.underlying82
 have HO := Aside0.mk (show Kd.R k82 82 w w0.heap.size (fun k_ => (P0_1_ k_ ∨ w.heap.size ≤ k_)) u9000_ l0_1 from Kd.R_mono ho0_1 (fun k_ hk => (.inl hk)))
 have BK0 := Aside0.mk hbx; have GE0 := Aside0.mk hgx
 have HK := Aside0.mk (Kept.refl w (fun k_ => (P0_1_ k_) ∨ k_ = g))
 have HB := Aside0.mk hB; clear hB hbx hgx
 unfold impl_Table_hear.f at h
 obtain ⟨⟨i, has⟩, hm, h⟩ := Option.bind_eq_some_iff.mp h
 simp only at h
 have HM := Aside0.mk hm; clear hm
 obtain ⟨Ao, co, eo⟩ := Kd.R_slice HO.out
 subst eo; obtain ⟨ht0, ht1⟩ := blkz2 BK0.out; have hft := blkf BK0.out
 cases has with
 | false =>
  simp only [Bool.false_eq_true, if_false] at h
  obtain ⟨l', hi, h⟩ := Option.bind_eq_some_iff.mp h
  simp only [Option.some.injEq, Prod.mk.injEq] at h
  obtain ⟨rfl, rfl, rfl⟩ := h
  have HI := Aside0.mk hi; clear hi; go_enter Try.func115, Try.ntmps115
  go_wp2_with (first | ((with_reducible refine gate_dst (N := 3) rfl ?_); refine box_event ?hg (N := 3) ?hd (cs := #[.int .i64 a1_0, .int .i64 a1_1, .int .i64 a1_2]) (t := 82) ?hr ?_; (case hd => rfl); (case hg => rfl); (case hr => first | (go_simp; done) | (go_simp; rfl)); intro gbm hg w1 hbox hb; have n_ := an (hbox) (an (Kd.R_below (Kd.R_nw HO.out) hb) (an (blk_below (blk_nw BK0.out) hb) (an (Kept.below (S := (fun k_ => (P0_1_ k_) ∨ k_ = g)) (by exact kpt) hb) (an (below_step (by exact bel0) hb) (an ((fun k e_ => by rw [hg]; exact Nat.ne_of_lt (Kd.R_lt (Kd.R_nw HO.out) k e_) : ∀ k, (Value.slice Ao l0_1.length co).ownBlock = some k → k ≠ gbm)) (an ((by rw [hg]; exact Nat.ne_of_lt (blk_lt (blk_nw BK0.out)) : g ≠ gbm)) (trivial))))))); clear hg hbox hb HO BK0 HK HB ht0 ht1 hft; obtain ⟨HX, HO, BK0, HK, HB, NM, NG, -⟩ := n_; obtain ⟨ht0, ht1⟩ := blkz2 BK0.out; have hft := blkf BK0.out; obtain ⟨hm0, hm1, hm2⟩ := blkz3 HX.out; have hfm := blkf HX.out))
  go_region_with (first | (go_at_call 133; refine (impl_Table_member.calls k a0_0 _ _ l0_1 a1_0 i _ _ ?s1 ?s2 HM.out).mono ?_; (case s1 => exact (Kd.R_reads' (Kd.R_nw HO.out)).2.2); (case s2 => exact (Kd.R_reads' HO.out).2.1); rintro e w2 ⟨rfl, hb⟩; have n_ := an (Kd.R_below (Kd.R_nw HO.out) hb) (an (blk_below (blk_nw BK0.out) hb) (an (blk_below (blk_nw HX.out) hb) (an (Kept.below (S := (fun k_ => (P0_1_ k_) ∨ k_ = g)) (by exact kpt) hb) (an (below_step (by exact bel0) hb) (trivial))))); clear hb HO BK0 HX HK HB ht0 ht1 hft hm0 hm1 hm2 hfm; obtain ⟨HO, BK0, HX, HK, HB, -⟩ := n_; obtain ⟨ht0, ht1⟩ := blkz2 BK0.out; have hft := blkf BK0.out; obtain ⟨hm0, hm1, hm2⟩ := blkz3 HX.out; have hfm := blkf HX.out; have hgl := blk_lt BK0.out; have hml := blk_lt HX.out; have hgl2 : g < w2.drew.heap.size := blk_lt BK0.out; have hml2 : gbm < w2.drew.heap.size := blk_lt HX.out))
  all_goals (go_wp2)
  all_goals (go_region_with (first | (go_at_call 154; refine (impl_Member_154.calls (fun k_ => some k_ = (Value.slice Ao l0_1.length co).ownBlock) (.slice Ao l0_1.length co) l0_1 i (fun k_ => some k_ = (Value.slice (some ⟨w2.drew.heap.size, 0, none⟩) 1 1).ownBlock) (.slice (some ⟨w2.drew.heap.size, 0, none⟩) 1 1) [(⟨a1_0, a1_1, a1_2⟩ : S82)] l' w0 _ ?s1 ?s2 ?s3 ?s4 ?s5 HI.out).mono ?_; (case s1 => exact bel0); (case s2 => exact Kd.R_tight rfl (Kd.R_nw HO.out)); (case s3 => exact fun k h1 h2 => by have := Kd.R_lt HO.out k h1.symm; simp only [Value.ownBlock, Option.some.injEq] at h2; have : w2.drew.heap.size = w2.heap.size := rfl; omega); (case s4 => exact Kd.R_tight rfl (lit1 w2.drew ⟨a1_0, a1_1, a1_2⟩ w0.heap.size (below_size (by exact bel0)))); (case s5 => exact fun k h2 h1 => by have := Kd.R_lt HO.out k h1.symm; simp only [Value.ownBlock, Option.some.injEq] at h2; have : w2.drew.heap.size = w2.heap.size := rfl; omega); rintro e w3 ⟨v3, rfl, hr3, hb3, hk3⟩; obtain ⟨A3, c3, e3⟩ := Kd.R_slice hr3; subst e3; have n_ := an ((Kd.R_mono hr3 (fun k hk => hk.elim (fun h => h.elim (fun h => HO.out.1 k h.symm) (fun h => .inr (by simp only [Value.ownBlock, Option.some.injEq] at h; have := HK.out.1; have : w2.drew.heap.size = w2.heap.size := rfl; omega))) (fun h => .inr (Nat.le_trans HK.out.1 (Nat.le_trans (below_size (by repeat (first | exact Below.refl _ _ | apply below_alloc | apply pw_below_drewN | apply below_drew1)) : w2.heap.size ≤ _) h)))) : Kd.R k82 82 w3 w0.heap.size (fun k_ => (P0_1_ k_ ∨ w.heap.size ≤ k_)) (.slice A3 l'.length c3) l')) (an (blk_kept (blk_nw BK0.out) hk3 (fun h => h.elim (fun h => Kd.R_ne HO.out BK0.out (by decide) h) (fun h => by have := blk_lt BK0.out; simp only [Value.ownBlock, Option.some.injEq] at h; have : w2.drew.heap.size = w2.heap.size := rfl; omega))) (an (blk_kept (blk_nw HX.out) hk3 (fun h => h.elim (fun h => NM.out _ h.symm rfl) (fun h => by have := blk_lt HX.out; simp only [Value.ownBlock, Option.some.injEq] at h; have : w2.drew.heap.size = w2.heap.size := rfl; omega))) (an (Kept.then_ (S := (fun k_ => (P0_1_ k_) ∨ k_ = g)) (by exact kpt) hk3 (fun k h => h.elim (fun h => Or.imp_left Or.inl (HO.out.1 k h.symm)) (fun h => .inr (by simp only [Value.ownBlock, Option.some.injEq] at h; have := HK.out.1; have : w2.drew.heap.size = w2.heap.size := rfl; omega)))) (an (hb3) (trivial))))); clear hr3 hb3 hk3 HO BK0 HX HK HB ht0 ht1 hft hm0 hm1 hm2 hfm; obtain ⟨HO, BK0, HX, HK, HB, -⟩ := n_; obtain ⟨ht0, ht1⟩ := blkz2 BK0.out; have hft := blkf BK0.out; obtain ⟨hm0, hm1, hm2⟩ := blkz3 HX.out; have hfm := blkf HX.out)))
  all_goals (go_wp2)
  all_goals (go_ret; exact ⟨rfl, _, Kd.R_farN HO.out BK0.out, blk_put (cs := #[.int .i64 a0_0, .slice Ao l0_1.length co]) BK0.out 1 _ rfl, bel0, by exact kpt⟩)
 | true =>
  rw [if_pos rfl] at h
  by_cases c0 : 0 ≤ i
  ·by_cases c1 : i < (l0_1.length : Int)
   ·rw [if_pos c0, if_pos c1] at h
    obtain ⟨t, ht_, h⟩ := Option.bind_eq_some_iff.mp h
    have HT := Aside0.mk ht_
    obtain ⟨go, cap, eo2, gob, gol, gcur, gform⟩ := Kd.R_form HO.out (by omega)
    injection eo2 with ea_ _ ec_
    subst ea_; subst ec_
    have HC0 := Aside0.mk c0; have HC1 := Aside0.mk c1; have GO := Aside0.mk gob
    have p1 : (0 ≤ i) = True := eq_true c0
    have q1 : (i < (l0_1.length : Int)) = True := eq_true c1
    have HH := Aside0.mk h; clear ht_ gob gol gform c0 c1 h; go_enter Try.func115, Try.ntmps115
    go_wp2_with (first | ((with_reducible refine gate_dst (N := 3) rfl ?_); refine box_event ?hg (N := 3) ?hd (cs := #[.int .i64 a1_0, .int .i64 a1_1, .int .i64 a1_2]) (t := 82) ?hr ?_; (case hd => rfl); (case hg => rfl); (case hr => first | (go_simp; done) | (go_simp; rfl)); intro gbm hg w1 hbox hb; have n_ := an (hbox) (an (Kd.R_below (Kd.R_nw HO.out) hb) (an (blk_below (blk_nw BK0.out) hb) (an (Kept.below (S := (fun k_ => (P0_1_ k_) ∨ k_ = g)) (by exact kpt) hb) (an (below_step (by exact bel0) hb) (an ((fun k e_ => by rw [hg]; exact Nat.ne_of_lt (Kd.R_lt (Kd.R_nw HO.out) k e_) : ∀ k, (Value.slice (some ⟨go, 0, none⟩) l0_1.length co).ownBlock = some k → k ≠ gbm)) (an ((by rw [hg]; exact Nat.ne_of_lt (blk_lt (blk_nw BK0.out)) : g ≠ gbm)) (trivial))))))); clear hg hbox hb HO BK0 HK HB ht0 ht1 hft; obtain ⟨HX, HO, BK0, HK, HB, NM, NG, -⟩ := n_; obtain ⟨ht0, ht1⟩ := blkz2 BK0.out; have hft := blkf BK0.out; obtain ⟨hm0, hm1, hm2⟩ := blkz3 HX.out; have hfm := blkf HX.out))
    go_region_with (first | (go_at_call 133; refine (impl_Table_member.calls k a0_0 _ _ l0_1 a1_0 i _ _ ?s1 ?s2 HM.out).mono ?_; (case s1 => exact (Kd.R_reads' (Kd.R_nw HO.out)).2.2); (case s2 => exact (Kd.R_reads' HO.out).2.1); rintro e w2 ⟨rfl, hb⟩; have n_ := an (Kd.R_below (Kd.R_nw HO.out) hb) (an (blk_below (blk_nw BK0.out) hb) (an (blk_below (blk_nw HX.out) hb) (an (Kept.below (S := (fun k_ => (P0_1_ k_) ∨ k_ = g)) (by exact kpt) hb) (an (below_step (by exact bel0) hb) (trivial))))); clear hb HO BK0 HX HK HB ht0 ht1 hft hm0 hm1 hm2 hfm; obtain ⟨HO, BK0, HX, HK, HB, -⟩ := n_; obtain ⟨ht0, ht1⟩ := blkz2 BK0.out; have hft := blkf BK0.out; obtain ⟨hm0, hm1, hm2⟩ := blkz3 HX.out; have hfm := blkf HX.out; have hgl := blk_lt BK0.out; have hml := blk_lt HX.out; have hgl2 : g < w2.drew.heap.size := blk_lt BK0.out; have hml2 : gbm < w2.drew.heap.size := blk_lt HX.out; obtain ⟨ce, hcl, hM_, hcc, hfr⟩ := Kd.R_elem HO.out z82 i HC0.out HC1.out; obtain rfl := k82_openM hM_; have hx0 : w2.cell? ⟨go, i.toNat * 3, none⟩ = some (.int .i64 ((rd_T82 l0_1 i).f0)) := hcc 0 _ rfl; have hx1 : w2.cell? ⟨go, i.toNat * 3 + 1, none⟩ = some (.int .i64 ((rd_T82 l0_1 i).f1)) := hcc 1 _ rfl; have hx2 : w2.cell? ⟨go, i.toNat * 3 + 2, none⟩ = some (.int .i64 ((rd_T82 l0_1 i).f2)) := hcc 2 _ rfl; have hfx0 : w2.frozen? ⟨go, i.toNat * 3, none⟩ = false := hfr 0; have hfx1 : w2.frozen? ⟨go, i.toNat * 3 + 1, none⟩ = false := hfr 1; have hfx2 : w2.frozen? ⟨go, i.toNat * 3 + 2, none⟩ = false := hfr 2))
    all_goals (go_wp2)
    all_goals (go_region_with (first | (go_at_call 155; refine (impl_Beats.calls a1_0 a1_1 a1_2 _ _ _ _ _ HT.out).mono ?_; rintro e w4 ⟨rfl, hb⟩; have n_ := an (Kd.R_below (Kd.R_nw HO.out) hb) (an (blk_below (blk_nw BK0.out) hb) (an (blk_below (blk_nw HX.out) hb) (an (Kept.below (S := (fun k_ => (P0_1_ k_) ∨ k_ = g)) (by exact kpt) hb) (an (below_step (by exact bel0) hb) (trivial))))); clear hb HO BK0 HX HK HB ht0 ht1 hft hm0 hm1 hm2 hfm hx0 hx1 hx2 hfx0 hfx1 hfx2 hcl hcc hfr; obtain ⟨HO, BK0, HX, HK, HB, -⟩ := n_; obtain ⟨ht0, ht1⟩ := blkz2 BK0.out; have hft := blkf BK0.out; obtain ⟨hm0, hm1, hm2⟩ := blkz3 HX.out; have hfm := blkf HX.out; obtain ⟨ce, hcl, hM_, hcc, hfr⟩ := Kd.R_elem HO.out z82 i HC0.out HC1.out; obtain rfl := k82_openM hM_; have hx0 : w4.cell? ⟨go, i.toNat * 3, none⟩ = some (.int .i64 ((rd_T82 l0_1 i).f0)) := hcc 0 _ rfl; have hx1 : w4.cell? ⟨go, i.toNat * 3 + 1, none⟩ = some (.int .i64 ((rd_T82 l0_1 i).f1)) := hcc 1 _ rfl; have hx2 : w4.cell? ⟨go, i.toNat * 3 + 2, none⟩ = some (.int .i64 ((rd_T82 l0_1 i).f2)) := hcc 2 _ rfl; have hfx0 : w4.frozen? ⟨go, i.toNat * 3, none⟩ = false := hfr 0; have hfx1 : w4.frozen? ⟨go, i.toNat * 3 + 1, none⟩ = false := hfr 1; have hfx2 : w4.frozen? ⟨go, i.toNat * 3 + 2, none⟩ = false := hfr 2)))
    all_goals
     have h := HH.out; clear HH
     cases t with
     | false =>
      simp only [Bool.false_eq_true, if_false, Option.some.injEq, Prod.mk.injEq] at h
      obtain ⟨rfl, rfl, rfl⟩ := h
      go_wp2
      go_ret
      exact ⟨rfl, _, Kd.R_nw HO.out, blk_nw BK0.out, bel0, by exact kpt⟩
     | true =>
      simp only [if_true, Option.some.injEq, Prod.mk.injEq] at h
      obtain ⟨rfl, rfl, rfl⟩ := h
      go_wp2
      by_cases ci : a1_0 = a0_0
      ·by_cases cf : a1_2 < 1000
       ·by_cases cs : (rd_T82 l0_1 i).f1 = 0
        ·by_cases cb : a1_1 = 0
         ·skip
          have cia : (a1_0 == a0_0) = true := beq_iff_eq.mpr ci; have cib : decide (a1_0 = a0_0) = true := decide_eq_true ci; have cic : (a1_0 != a0_0) = false := bne_eq_false_iff_eq.mpr ci
          have cfa : decide (a1_2 < 1000) = true := decide_eq_true cf
          have csa : ((rd_T82 l0_1 i).f1 == 0) = true := beq_iff_eq.mpr cs; have csb : decide ((rd_T82 l0_1 i).f1 = 0) = true := decide_eq_true cs; have csc : ((rd_T82 l0_1 i).f1 != 0) = false := bne_eq_false_iff_eq.mpr cs
          have cba : (a1_1 == 0) = true := beq_iff_eq.mpr cb; have cbb : decide (a1_1 = 0) = true := decide_eq_true cb; have cbc : (a1_1 != 0) = false := bne_eq_false_iff_eq.mpr cb
          have hE : hearM a0_0 (rd_T82 l0_1 i) a1_0 a1_1 a1_2 = (⟨a1_0, a1_1, a1_2⟩ : S82) := by unfold hearM; rw [if_pos ci, if_pos cf, if_pos cs, if_pos cb]
          have HE := Aside0.mk hE; clear hE ci cf cs cb
          go_region_with (fail)
          all_goals (go_wp2)
          all_goals (go_ret; rw [HE.out]; have HOd := Kd.R_drew HO.out; obtain ⟨ce2, hcl2, hM2, hcc2, hfr2⟩ := Kd.R_elem HOd z82 i HC0.out HC1.out; obtain rfl := k82_openM hM2; have HP := Kd.R_seg HOd i HC0.out HC1.out (seg := [.int .i64 a1_0, .int .i64 a1_1, .int .i64 a1_2]) (j := 0) hcl2 hcc2 (show 3 ≤ 3 from by decide) (x' := (⟨a1_0, a1_1, a1_2⟩ : S82)) (k82_mkM _ _ _ (⟨a1_0, a1_1, a1_2⟩ : S82)) (fun _ hk => hk); exact ⟨rfl, _, HP.1, blk_grown (blk_nw BK0.out) HP.2 (Kd.R_ne HO.out BK0.out (by decide)), (show Below w0.heap.size w0 w4.drew from by exact bel0).grown HP.2 (below_size (by exact bel0)) (fun k hk => by injection hk with hk; subst hk; exact GO.out), Kept.of_grown HP.2 (by exact kpt) (fun k e_ => Or.imp_left Or.inl (HO.out.1 k e_))⟩)
         ·skip
          have cia : (a1_0 == a0_0) = true := beq_iff_eq.mpr ci; have cib : decide (a1_0 = a0_0) = true := decide_eq_true ci; have cic : (a1_0 != a0_0) = false := bne_eq_false_iff_eq.mpr ci
          have cfa : decide (a1_2 < 1000) = true := decide_eq_true cf
          have csa : ((rd_T82 l0_1 i).f1 == 0) = true := beq_iff_eq.mpr cs; have csb : decide ((rd_T82 l0_1 i).f1 = 0) = true := decide_eq_true cs; have csc : ((rd_T82 l0_1 i).f1 != 0) = false := bne_eq_false_iff_eq.mpr cs
          have cba : (a1_1 == 0) = false := beq_eq_false_iff_ne.mpr cb; have cbb : decide (a1_1 = 0) = false := decide_eq_false cb; have cbc : (a1_1 != 0) = true := bne_iff_ne.mpr cb
          have hE : hearM a0_0 (rd_T82 l0_1 i) a1_0 a1_1 a1_2 = (⟨(rd_T82 l0_1 i).f0, (rd_T82 l0_1 i).f1, wrap64 (a1_2 + 1)⟩ : S82) := by unfold hearM; rw [if_pos ci, if_pos cf, if_pos cs, if_neg cb]
          have HE := Aside0.mk hE; clear hE ci cf cs cb
          go_region_with (fail)
          all_goals (go_wp2)
          all_goals (go_ret; rw [HE.out]; have HOd := Kd.R_drew HO.out; obtain ⟨ce2, hcl2, hM2, hcc2, hfr2⟩ := Kd.R_elem HOd z82 i HC0.out HC1.out; obtain rfl := k82_openM hM2; have HP := Kd.R_seg HOd i HC0.out HC1.out (seg := [.int .i64 (wrap64 (a1_2 + 1))]) (j := 2) hcl2 hcc2 (show 3 ≤ 3 from by decide) (x' := (⟨(rd_T82 l0_1 i).f0, (rd_T82 l0_1 i).f1, wrap64 (a1_2 + 1)⟩ : S82)) (k82_mkM _ _ _ (⟨(rd_T82 l0_1 i).f0, (rd_T82 l0_1 i).f1, wrap64 (a1_2 + 1)⟩ : S82)) (fun _ hk => hk); exact ⟨rfl, _, HP.1, blk_grown (blk_nw BK0.out) HP.2 (Kd.R_ne HO.out BK0.out (by decide)), (show Below w0.heap.size w0 w4.drew from by exact bel0).grown HP.2 (below_size (by exact bel0)) (fun k hk => by injection hk with hk; subst hk; exact GO.out), Kept.of_grown HP.2 (by exact kpt) (fun k e_ => Or.imp_left Or.inl (HO.out.1 k e_))⟩)
        ·by_cases cl : (rd_T82 l0_1 i).f1 = 3
         ·skip
          have cia : (a1_0 == a0_0) = true := beq_iff_eq.mpr ci; have cib : decide (a1_0 = a0_0) = true := decide_eq_true ci; have cic : (a1_0 != a0_0) = false := bne_eq_false_iff_eq.mpr ci
          have cfa : decide (a1_2 < 1000) = true := decide_eq_true cf
          have csa : ((rd_T82 l0_1 i).f1 == 0) = false := beq_eq_false_iff_ne.mpr cs; have csb : decide ((rd_T82 l0_1 i).f1 = 0) = false := decide_eq_false cs; have csc : ((rd_T82 l0_1 i).f1 != 0) = true := bne_iff_ne.mpr cs
          have cla : ((rd_T82 l0_1 i).f1 == 3) = true := beq_iff_eq.mpr cl; have clb : decide ((rd_T82 l0_1 i).f1 = 3) = true := decide_eq_true cl; have clc : ((rd_T82 l0_1 i).f1 != 3) = false := bne_eq_false_iff_eq.mpr cl
          have hE : hearM a0_0 (rd_T82 l0_1 i) a1_0 a1_1 a1_2 = (⟨(rd_T82 l0_1 i).f0, (rd_T82 l0_1 i).f1, a1_2⟩ : S82) := by unfold hearM; rw [if_pos ci, if_pos cf, if_neg cs, if_pos cl]
          have HE := Aside0.mk hE; clear hE ci cf cs cl
          go_region_with (fail)
          all_goals (go_wp2)
          all_goals (go_ret; rw [HE.out]; have HOd := Kd.R_drew HO.out; obtain ⟨ce2, hcl2, hM2, hcc2, hfr2⟩ := Kd.R_elem HOd z82 i HC0.out HC1.out; obtain rfl := k82_openM hM2; have HP := Kd.R_seg HOd i HC0.out HC1.out (seg := [.int .i64 a1_2]) (j := 2) hcl2 hcc2 (show 3 ≤ 3 from by decide) (x' := (⟨(rd_T82 l0_1 i).f0, (rd_T82 l0_1 i).f1, a1_2⟩ : S82)) (k82_mkM _ _ _ (⟨(rd_T82 l0_1 i).f0, (rd_T82 l0_1 i).f1, a1_2⟩ : S82)) (fun _ hk => hk); exact ⟨rfl, _, HP.1, blk_grown (blk_nw BK0.out) HP.2 (Kd.R_ne HO.out BK0.out (by decide)), (show Below w0.heap.size w0 w4.drew from by exact bel0).grown HP.2 (below_size (by exact bel0)) (fun k hk => by injection hk with hk; subst hk; exact GO.out), Kept.of_grown HP.2 (by exact kpt) (fun k e_ => Or.imp_left Or.inl (HO.out.1 k e_))⟩)
         ·skip
          have cia : (a1_0 == a0_0) = true := beq_iff_eq.mpr ci; have cib : decide (a1_0 = a0_0) = true := decide_eq_true ci; have cic : (a1_0 != a0_0) = false := bne_eq_false_iff_eq.mpr ci
          have cfa : decide (a1_2 < 1000) = true := decide_eq_true cf
          have csa : ((rd_T82 l0_1 i).f1 == 0) = false := beq_eq_false_iff_ne.mpr cs; have csb : decide ((rd_T82 l0_1 i).f1 = 0) = false := decide_eq_false cs; have csc : ((rd_T82 l0_1 i).f1 != 0) = true := bne_iff_ne.mpr cs
          have cla : ((rd_T82 l0_1 i).f1 == 3) = false := beq_eq_false_iff_ne.mpr cl; have clb : decide ((rd_T82 l0_1 i).f1 = 3) = false := decide_eq_false cl; have clc : ((rd_T82 l0_1 i).f1 != 3) = true := bne_iff_ne.mpr cl
          have hE : hearM a0_0 (rd_T82 l0_1 i) a1_0 a1_1 a1_2 = (⟨a1_0, a1_1, a1_2⟩ : S82) := by unfold hearM; rw [if_pos ci, if_pos cf, if_neg cs, if_neg cl]
          have HE := Aside0.mk hE; clear hE ci cf cs cl
          go_region_with (fail)
          all_goals (go_wp2)
          all_goals (go_ret; rw [HE.out]; have HOd := Kd.R_drew HO.out; obtain ⟨ce2, hcl2, hM2, hcc2, hfr2⟩ := Kd.R_elem HOd z82 i HC0.out HC1.out; obtain rfl := k82_openM hM2; have HP := Kd.R_seg HOd i HC0.out HC1.out (seg := [.int .i64 a1_0, .int .i64 a1_1, .int .i64 a1_2]) (j := 0) hcl2 hcc2 (show 3 ≤ 3 from by decide) (x' := (⟨a1_0, a1_1, a1_2⟩ : S82)) (k82_mkM _ _ _ (⟨a1_0, a1_1, a1_2⟩ : S82)) (fun _ hk => hk); exact ⟨rfl, _, HP.1, blk_grown (blk_nw BK0.out) HP.2 (Kd.R_ne HO.out BK0.out (by decide)), (show Below w0.heap.size w0 w4.drew from by exact bel0).grown HP.2 (below_size (by exact bel0)) (fun k hk => by injection hk with hk; subst hk; exact GO.out), Kept.of_grown HP.2 (by exact kpt) (fun k e_ => Or.imp_left Or.inl (HO.out.1 k e_))⟩)
       ·skip
        have cia : (a1_0 == a0_0) = true := beq_iff_eq.mpr ci; have cib : decide (a1_0 = a0_0) = true := decide_eq_true ci; have cic : (a1_0 != a0_0) = false := bne_eq_false_iff_eq.mpr ci
        have cfa : decide (a1_2 < 1000) = false := decide_eq_false cf
        have hE : hearM a0_0 (rd_T82 l0_1 i) a1_0 a1_1 a1_2 = (⟨a1_0, a1_1, a1_2⟩ : S82) := by unfold hearM; rw [if_pos ci, if_neg cf]
        have HE := Aside0.mk hE; clear hE ci cf
        go_region_with (fail)
        all_goals (go_wp2)
        all_goals (go_ret; rw [HE.out]; have HOd := Kd.R_drew HO.out; obtain ⟨ce2, hcl2, hM2, hcc2, hfr2⟩ := Kd.R_elem HOd z82 i HC0.out HC1.out; obtain rfl := k82_openM hM2; have HP := Kd.R_seg HOd i HC0.out HC1.out (seg := [.int .i64 a1_0, .int .i64 a1_1, .int .i64 a1_2]) (j := 0) hcl2 hcc2 (show 3 ≤ 3 from by decide) (x' := (⟨a1_0, a1_1, a1_2⟩ : S82)) (k82_mkM _ _ _ (⟨a1_0, a1_1, a1_2⟩ : S82)) (fun _ hk => hk); exact ⟨rfl, _, HP.1, blk_grown (blk_nw BK0.out) HP.2 (Kd.R_ne HO.out BK0.out (by decide)), (show Below w0.heap.size w0 w4.drew from by exact bel0).grown HP.2 (below_size (by exact bel0)) (fun k hk => by injection hk with hk; subst hk; exact GO.out), Kept.of_grown HP.2 (by exact kpt) (fun k e_ => Or.imp_left Or.inl (HO.out.1 k e_))⟩)
      ·skip
       have cia : (a1_0 == a0_0) = false := beq_eq_false_iff_ne.mpr ci; have cib : decide (a1_0 = a0_0) = false := decide_eq_false ci; have cic : (a1_0 != a0_0) = true := bne_iff_ne.mpr ci
       have hE : hearM a0_0 (rd_T82 l0_1 i) a1_0 a1_1 a1_2 = (⟨a1_0, a1_1, a1_2⟩ : S82) := by unfold hearM; rw [if_neg ci]
       have HE := Aside0.mk hE; clear hE ci
       go_quiet (fail)
       all_goals (go_wp2)
       all_goals (go_ret; rw [HE.out]; have HOd := (Kd.R_nw HO.out : Kd.R k82 82 (w4.drewN nq) w0.heap.size _ _ l0_1); obtain ⟨ce2, hcl2, hM2, hcc2, hfr2⟩ := Kd.R_elem HOd z82 i HC0.out HC1.out; obtain rfl := k82_openM hM2; have HP := Kd.R_seg HOd i HC0.out HC1.out (seg := [.int .i64 a1_0, .int .i64 a1_1, .int .i64 a1_2]) (j := 0) hcl2 hcc2 (show 3 ≤ 3 from by decide) (x' := (⟨a1_0, a1_1, a1_2⟩ : S82)) (k82_mkM _ _ _ (⟨a1_0, a1_1, a1_2⟩ : S82)) (fun _ hk => hk); exact ⟨rfl, _, HP.1, blk_grown (blk_nw BK0.out) HP.2 (Kd.R_ne HO.out BK0.out (by decide)), (show Below w0.heap.size w0 (w4.drewN nq) from by exact bel0).grown HP.2 (below_size (by exact bel0)) (fun k hk => by injection hk with hk; subst hk; exact GO.out), Kept.of_grown HP.2 (by exact kpt) (fun k e_ => Or.imp_left Or.inl (HO.out.1 k e_))⟩)
   ·rw [if_pos c0, if_neg c1] at h; exact absurd h (by simp)
  ·rw [if_neg c0] at h; exact absurd h (by simp)

/-! ### impl_Heard: function 53 -/
def impl_Heard.j0 : Nat → Bool → Int → List (S82) → Int → Int → Int → Option (Int × (List (S82)) × Bool)
  | 0, _, _, _, _, _, _ => none
  | k + 1, x15, x244000, x244001, x245000, x245001, x245002 => if x15 = true then (some (0, ([] : List (S82)), false)) else ((impl_Table_own.f x244000 x244001).bind fun bt248 => ((impl_Table_hear.f k bt248.1 bt248.2 x245000 x245001 x245002).bind fun bt253 => (some (bt253.2.1, bt253.2.2, bt253.1))))
def impl_Heard.f (k : Nat) (a0_0 : Int) (l0_1 : List (S82)) (a1_0 : Int) (a1_1 : Int) (a1_2 : Int) : Option (Int × (List (S82)) × Bool) := (impl_TableOk.f k a0_0 l0_1).bind fun t246 => (if t246 = true then ((impl_MemberOk.f a1_0 a1_1 a1_2).bind fun t247 => (impl_Heard.j0 k (!t247) a0_0 l0_1 a1_0 a1_1 a1_2)) else (impl_Heard.j0 k true a0_0 l0_1 a1_0 a1_1 a1_2))
theorem impl_Heard.mono_l : ∀ k, (∀ y0 y1 y2 y3 y4 y5, LeO (impl_Heard.j0 k y0 y1 y2 y3 y4 y5) (impl_Heard.j0 (k + 1) y0 y1 y2 y3 y4 y5))
 | 0 => fun _ _ _ _ _ _ r h => by simp [impl_Heard.j0] at h
 | k + 1 => by
  have ih0 := impl_Heard.mono_l k
  ·intro y0 y1 y2 y3 y4 y5
   unfold impl_Heard.j0
   repeat' first
   | (with_reducible exact ih0 _ _ _ _ _ _)
   | (with_reducible exact impl_TableOk.mono _ _ _)
   | (with_reducible exact impl_Table_hear.mono _ _ _ _ _ _)
   | (with_reducible exact LeO.refl _)
   | (with_reducible exact LeO.none _)
   | (with_reducible refine LeO.ite ?_ ?_)
   | (with_reducible refine LeO.bind ?_ (fun _ => ?_))
   | exact ih0 _ _ _ _ _ _
   | exact impl_TableOk.mono _ _ _
   | exact impl_Table_hear.mono _ _ _ _ _ _
   | exact LeO.none _
   | refine LeO.ite ?_ ?_
   | refine LeO.bind ?_ (fun _ => ?_)
theorem impl_Heard.mono : ∀ a0 a1 a2 a3 a4 k, LeO (impl_Heard.f k a0 a1 a2 a3 a4) (impl_Heard.f (k + 1) a0 a1 a2 a3 a4) := by
 intro a0 a1 a2 a3 a4 k
 have ih0 := impl_Heard.mono_l k
 unfold impl_Heard.f
 repeat' first
   | (with_reducible exact ih0 _ _ _ _ _ _)
   | (with_reducible exact impl_TableOk.mono _ _ _)
   | (with_reducible exact impl_Table_hear.mono _ _ _ _ _ _)
   | (with_reducible exact LeO.refl _)
   | (with_reducible exact LeO.none _)
   | (with_reducible refine LeO.ite ?_ ?_)
   | (with_reducible refine LeO.bind ?_ (fun _ => ?_))
   | exact ih0 _ _ _ _ _ _
   | exact impl_TableOk.mono _ _ _
   | exact impl_Table_hear.mono _ _ _ _ _ _
   | exact LeO.none _
   | refine LeO.ite ?_ ?_
   | refine LeO.bind ?_ (fun _ => ?_)
set_option maxHeartbeats 8000000 in
set_option maxRecDepth 100000 in
theorem impl_Heard.calls (k : Nat) (a0_0 : Int) (A0_1 : Option Addr) (c0_1 : Nat) (l0_1 : List (S82)) (a1_0 : Int) (a1_1 : Int) (a1_2 : Int) (r1 : Int) (r2 : List (S82)) (r3 : Bool) (w : World) (hr0_1 : Kd.C k82 w A0_1 l0_1.length l0_1) (hc0_1 : l0_1.length ≤ c0_1) (h : impl_Heard.f k a0_0 l0_1 a1_0 a1_1 a1_2 = some (r1, r2, r3)) :
  Calls Try.prog 53 #[.agg #[.int .i64 a0_0, .slice A0_1 l0_1.length c0_1], .agg #[.int .i64 a1_0, .int .i64 a1_1, .int .i64 a1_2]] w fun e w' => ∃ v1_ : Value, e = .returned (.tuple #[.agg #[.int .i64 r1, v1_], .bool r3]) ∧ Kd.R k82 82 w' w.heap.size (fun _ => True) v1_ r2 ∧ Below w.heap.size w w' := by
 have hu41 := Try.underlying41
 have hu82 := Try.underlying82
 have HR0_1 := Aside0.mk hr0_1; have HC0_1 := Aside0.mk hc0_1; clear hr0_1 hc0_1
 have HB := Aside0.mk (Below.refl w.heap.size w)
 have H : ((impl_TableOk.f k a0_0 l0_1).bind fun t246 => (if t246 = true then ((impl_MemberOk.f a1_0 a1_1 a1_2).bind fun t247 => (impl_Heard.j0 k (!t247) a0_0 l0_1 a1_0 a1_1 a1_2)) else (impl_Heard.j0 k true a0_0 l0_1 a1_0 a1_1 a1_2))) = some (r1, r2, r3) := h
 clear h; have HC3 := Aside0.mk H; clear H; go_enter Try.func53, Try.ntmps53
 go_upto_region 1 with (first | ((with_reducible refine gate_dst (N := 2) rfl ?_); refine box_event ?hg (N := 2) ?hd (cs := #[.int .i64 a0_0, .slice A0_1 l0_1.length c0_1]) (t := 41) ?hr ?_; (case hd => rfl); (case hg => rfl); (case hr => first | (go_simp; done) | (go_simp; rfl)); intro gb243 hg w4 hbox hb; have n_ := an (below_step (by exact bel0) hb) (an (hbox) (an ((by rw [hg]; exact (below_size (by exact bel0)) : w.heap.size ≤ gb243)) (an ((by rw [hg]; exact (below_size (by exact bel0)) : w.heap.size ≤ gb243)) (trivial)))); clear HB; obtain ⟨HB, BK243, GW243, GE243, -⟩ := n_; clear hb hbox hg) | ((with_reducible refine gate_dst (N := 3) rfl ?_); refine box_event ?hg (N := 3) ?hd (cs := #[.int .i64 a1_0, .int .i64 a1_1, .int .i64 a1_2]) (t := 82) ?hr ?_; (case hd => rfl); (case hg => rfl); (case hr => first | (go_simp; done) | (go_simp; rfl)); intro gb244 hg w5 hbox hb; have n_ := an (blk_below (blk_nw BK243.out) hb) (an (below_step (by exact bel0) hb) (an (hbox) (an ((by rw [hg]; exact (below_size (by exact bel0)) : w.heap.size ≤ gb244)) (an ((by rw [hg]; exact (below_size (by exact bel0)) : w.heap.size ≤ gb244)) (an ((by rw [hg]; exact Nat.ne_of_lt (blk_lt (blk_nw BK243.out)) : gb243 ≠ gb244)) (an ((by rw [hg]; exact Nat.ne_of_gt (blk_lt (blk_nw BK243.out)) : gb244 ≠ gb243)) (trivial))))))); clear BK243 HB; obtain ⟨BK243, HB, BK244, GW244, GE244, NB243_244, NB244_243, -⟩ := n_; clear hb hbox hg) | ((with_reducible refine gate_dst (N := 4) rfl ?_); refine box_event ?hg (N := 4) ?hd (cs := #[.int .i64 0, .slice none 0 0]) (t := 41) ?hr ?_; (case hd => rfl); (case hg => rfl); (case hr => first | (go_simp; done) | (go_simp; rfl)); intro gb245 hg w6 hbox hb; have n_ := an (blk_below (blk_nw BK243.out) hb) (an (blk_below (blk_nw BK244.out) hb) (an (below_step (by exact bel0) hb) (an (hbox) (an ((by rw [hg]; exact (below_size (by exact bel0)) : w.heap.size ≤ gb245)) (an ((by rw [hg]; exact (below_size (by exact bel0)) : w.heap.size ≤ gb245)) (an ((by rw [hg]; exact Nat.ne_of_lt (blk_lt (blk_nw BK243.out)) : gb243 ≠ gb245)) (an ((by rw [hg]; exact Nat.ne_of_gt (blk_lt (blk_nw BK243.out)) : gb245 ≠ gb243)) (an ((by rw [hg]; exact Nat.ne_of_lt (blk_lt (blk_nw BK244.out)) : gb244 ≠ gb245)) (an ((by rw [hg]; exact Nat.ne_of_gt (blk_lt (blk_nw BK244.out)) : gb245 ≠ gb244)) (trivial)))))))))); clear BK243 BK244 HB; obtain ⟨BK243, BK244, HB, BK245, GW245, GE245, NB243_245, NB245_243, NB244_245, NB245_244, -⟩ := n_; clear hb hbox hg))
 (try simp only [Act.put, List.setIfInBounds_toArray, List.set_cons_zero, List.set_cons_succ])
 go_cut [15] (fun v15 wc => ∃ (kq : Nat) (x15_2 : Bool), v15 = .bool x15_2 ∧ Aside0 (impl_Heard.j0 kq x15_2 a0_0 l0_1 a1_0 a1_1 a1_2 = some (r1, r2, r3)) ∧ Aside0 (kq ≤ k) ∧ Aside0 (wc.heap[gb243]? = some (.cells #[.int .i64 a0_0, (.slice A0_1 l0_1.length c0_1)] 41 (0, 0))) ∧ Aside0 (wc.heap[gb244]? = some (.cells #[.int .i64 a1_0, .int .i64 a1_1, .int .i64 a1_2] 82 (0, 0))) ∧ Aside0 (wc.heap[gb245]? = some (.cells #[.int .i64 0, (.slice none 0 0)] 41 (0, 0))) ∧ Aside0 (Below w.heap.size w wc))
 case first =>
  have H := HC3.out; clear HC3; replace H := Option.bind_eq_some_iff.mp H; obtain ⟨t246, A70, H⟩ := H; have A7 := Aside0.mk A70; clear A70; have hnb8 := NB243_244.out; have hnc8 := NB244_243.out; have hnb9 := NB243_245.out; have hnc9 := NB245_243.out; obtain ⟨hcz10_0, hcz10_1⟩ := blkz2 BK243.out; have hfz10_0 := blkf BK243.out
  replace H := Aside0.mk H
  go_wp2_with (first | ((with_reducible refine gate_callee (f := 81) rfl ?_); refine goesL_ (some 9) rfl rfl Try.func81 (by kernel_rfl) rfl #[.agg #[.int .i64 a0_0, .slice A0_1 l0_1.length c0_1]] rfl (by (try simp only [List.map_toArray, List.map_cons, List.map_nil]); first | done | rfl | (simp only [List.length_drop, List.length_take]; rfl)) ?_; (with_reducible refine (impl_TableOk.calls k a0_0 _ _ l0_1 t246 _ ?side1 ?side2 A7.out).mono ?_); (case side1 => repeat (first | exact (Kd.C_below HR0_1.out HB.out) | (with_reducible refine Kd.C_alloc ?_ _) | (with_reducible refine Kd.C_drewN ?_ _) | (with_reducible refine Kd.C_drew ?_))); (case side2 => exact HC0_1.out); rintro e w11 ⟨rfl, hb⟩; refine ⟨_, rfl, ?_⟩; have n_ := an (blk_below (blk_nw BK243.out) hb) (an (blk_below (blk_nw BK244.out) hb) (an (blk_below (blk_nw BK245.out) hb) (an (below_step (by exact bel0) hb) (trivial)))); clear BK243 BK244 BK245 HB; obtain ⟨BK243, BK244, BK245, HB, -⟩ := n_; (try clear hb); (try clear hb2); (try clear hk); (try clear hi); refine Stop.out ?_))
  refine Stop.mk ?_
  replace H := H.out
  by_cases c12 : t246 = true
  ·subst c12; rw [if_pos rfl] at H; replace H := Option.bind_eq_some_iff.mp H; obtain ⟨t247, A130, H⟩ := H; have A13 := Aside0.mk A130; clear A130
   have H' := Aside0.mk H
   clear H; have hnb14 := NB244_243.out; have hnc14 := NB243_244.out; have hnb15 := NB244_245.out; have hnc15 := NB245_244.out; obtain ⟨hcz16_0, hcz16_1, hcz16_2⟩ := blkz3 BK244.out; have hfz16_0 := blkf BK244.out
   go_wp2_with (first | (go_at_call 114; (with_reducible refine (impl_MemberOk.calls a1_0 a1_1 a1_2 t247 _ A13.out).mono ?_); rintro e w17 ⟨rfl, hb⟩; have n_ := an (blk_below (blk_nw BK243.out) hb) (an (blk_below (blk_nw BK244.out) hb) (an (blk_below (blk_nw BK245.out) hb) (an (below_step (by exact bel0) hb) (trivial)))); clear BK243 BK244 BK245 HB; obtain ⟨BK243, BK244, BK245, HB, -⟩ := n_; (try clear hb); (try clear hb2); (try clear hk); (try clear hi)))
   go_meet
   case rel => exact ⟨_, (!t247), (by first | rfl | (simp; done) | (simp [*]; done)), H', ⟨by first | omega | exact Nat.le_refl _⟩, ⟨by exact blk_nw BK243.out⟩, ⟨by exact blk_nw BK244.out⟩, ⟨by exact blk_nw BK245.out⟩, ⟨by exact bel0⟩⟩
  ·replace c12 := Bool.eq_false_iff.mpr c12
   subst c12
   rw [if_neg (show ¬ (false = true) by decide)] at H
   have H' := Aside0.mk H
   clear H
   go_wp2
   go_meet
   case rel => exact ⟨_, (true), (by first | rfl | (simp; done) | (simp [*]; done)), H', ⟨by first | omega | exact Nat.le_refl _⟩, ⟨by exact blk_nw BK243.out⟩, ⟨by exact blk_nw BK244.out⟩, ⟨by exact blk_nw BK245.out⟩, ⟨by exact bel0⟩⟩
 case rest =>
  clear HC3; try clear c1; try clear p2; try clear c5; try clear c8; try clear c9; try clear c12; try clear c14; try clear c15; try clear hcz10_0; try clear hcz10_1; try clear hcz16_0; try clear hcz16_1; try clear hcz16_2; try clear hfz10_0; try clear hfz10_1; try clear hfz16_0; try clear hfz16_1; try clear hfz16_2
  obtain ⟨kq, x15_2, rfl, HA, HJ2, BK243, BK244, BK245, HB⟩ := hcut
  cases kq with
  | zero => exact absurd HA.out (by simp [impl_Heard.j0])
  | succ kj2 =>
   have H := HA.out; clear HA
   simp only [impl_Heard.j0] at H
   by_cases c18 : x15_2 = true
   ·subst c18; rw [if_pos rfl] at H; simp only [Option.some.injEq, Prod.mk.injEq] at H; obtain ⟨rfl, rfl, rfl⟩ := H; have hnb19 := NB245_243.out; have hnc19 := NB243_245.out; have hnb20 := NB245_244.out; have hnc20 := NB244_245.out; obtain ⟨hcz21_0, hcz21_1⟩ := blkz2 BK245.out; have hfz21_0 := blkf BK245.out
    go_wp2_with (first | ((with_reducible refine gate_store (t := 41) (p := 4) rfl ?_); refine store_event (t := 41) (p := 4) (v := ?vo_w22) (w1 := ((wc.setCell ⟨gb245, 0, none⟩ (.int .i64 0)).setCell ⟨gb245, 1, none⟩ (.slice none 0 0))) ?hg ?ho ?hn ?hr ?_; (case ho => rfl); (case hg => rfl); (case hn => rfl); (case hr => first | (go_simp; done) | (go_simp; rfl)); intro w22 hw; have n0_ : Aside0 (w22.heap[gb243]? = some (.cells #[.int .i64 a0_0, .slice A0_1 l0_1.length c0_1] 41 (0, 0))) := ⟨(by rw [hw]; exact (by exact blk_kb BK243.out NB243_245.out))⟩; have n1_ : Aside0 (w22.heap[gb244]? = some (.cells #[.int .i64 a1_0, .int .i64 a1_1, .int .i64 a1_2] 82 (0, 0))) := ⟨(by rw [hw]; exact (by exact blk_kb BK244.out NB244_245.out))⟩; have n2_ : Aside0 (w22.heap[gb245]? = some (.cells #[.int .i64 0, .slice none 0 0] 41 (0, 0))) := ⟨(by rw [hw]; exact (by (with_reducible repeat (first | refine blk_drewN ?_ _ | refine blk_drew ?_ | refine blk_alloc ?_ _)); exact blk_fill2 BK245.out))⟩; have n3_ : Aside0 (Below w.heap.size w w22) := ⟨(by rw [hw]; exact (by exact bel0))⟩; clear hw; clear BK243; clear BK244; clear BK245; clear HB; have BK243 := n0_; have BK244 := n1_; have BK245 := n2_; have HB := n3_; clear n0_ n1_ n2_ n3_))
    refine bodyPost_ret (results_ct rfl _ _ gb245 41 #[.int .i64 0, .slice none 0 0] (0, 0) _ rfl (by exact blk_nw BK245.out) Try.underlying41 rfl (by kernel_rfl)) rfl ?_
    exact ⟨_, by first | rfl | (simp [errW_none, errW_some] <;> rfl) | (simp [*, errW_none, errW_some] <;> rfl), by first | exact Kd.R_nil _ _ _ _ _ | exact Kd.N_nil _ _ _ _ _ | exact Kd.V_nil _ _ _ _ _ | exact Kd.Q_nil _ _ _ _ _ | exact Kd.S_nil _ _ _ _ _, by exact bel0⟩
   ·replace c18 := Bool.eq_false_iff.mpr c18
    subst c18
    rw [if_neg (show ¬ (false = true) by decide)] at H
    replace H := Option.bind_eq_some_iff.mp H
    obtain ⟨⟨t248, t249⟩, A230, H⟩ := H
    replace H : ((impl_Table_hear.f kj2 t248 t249 a1_0 a1_1 a1_2).bind fun bt253 => (some (bt253.2.1, bt253.2.2, bt253.1))) = some (r1, r2, r3) := H
    have A23 := Aside0.mk A230; clear A230; replace H := Option.bind_eq_some_iff.mp H
    obtain ⟨⟨t253, t254, t255⟩, A240, H⟩ := H
    replace H : (some (t254, t255, t253)) = some (r1, r2, r3) := H
    have A24 := Aside0.mk A240; clear A240; simp only [Option.some.injEq, Prod.mk.injEq] at H; obtain ⟨rfl, rfl, rfl⟩ := H; have hnb25 := NB243_244.out; have hnc25 := NB244_243.out; have hnb26 := NB243_245.out; have hnc26 := NB245_243.out; obtain ⟨hcz27_0, hcz27_1⟩ := blkz2 BK243.out; have hfz27_0 := blkf BK243.out
    go_wp2_with (first | ((with_reducible refine gate_callee (f := 82) rfl ?_); refine goesL_ (some 18) rfl rfl Try.func82 (by kernel_rfl) rfl #[.agg #[.int .i64 a0_0, .slice A0_1 l0_1.length c0_1]] rfl (by (try simp only [List.map_toArray, List.map_cons, List.map_nil]); first | done | rfl | (simp only [List.length_drop, List.length_take]; rfl)) ?_; (with_reducible refine (impl_Table_own.calls a0_0 _ _ l0_1 t248 t249 _ ?side1 ?side2 A23.out).mono ?_); (case side1 => repeat (first | exact (Kd.C_below HR0_1.out HB.out) | (with_reducible refine Kd.C_alloc ?_ _) | (with_reducible refine Kd.C_drewN ?_ _) | (with_reducible refine Kd.C_drew ?_))); (case side2 => exact HC0_1.out); rintro e w28 ⟨v250, rfl, ho0, hb⟩; refine ⟨_, rfl, ?_⟩; have n_ := an (Kd.R_lower (Kd.R_newB ho0 (blk_nw BK244.out)) (below_size (by exact bel0))) (an (blk_below (blk_nw BK243.out) hb) (an (blk_below (blk_nw BK244.out) hb) (an (blk_below (blk_nw BK245.out) hb) (an (below_step (by exact bel0) hb) (trivial))))); clear BK243 BK244 BK245 HB; obtain ⟨HO251, BK243, BK244, BK245, HB, -⟩ := n_; (try clear hb); (try clear hb2); (try clear hk); (try clear hi); (try clear ho0)) | ((with_reducible refine gate_dst (N := 6) rfl ?_); refine box_event ?hg (N := 6) ?hd (cs := #[.int .i64 0, .slice none 0 0]) (t := 41) ?hr ?_; (case hd => rfl); (case hg => rfl); (case hr => first | (go_simp; done) | (go_simp; rfl)); intro gb252 hg w29 hbox hb; have n_ := an (Kd.R_below (by exact Kd.R_nw HO251.out) hb) (an (blk_below (blk_nw BK243.out) hb) (an (blk_below (blk_nw BK244.out) hb) (an (blk_below (blk_nw BK245.out) hb) (an (below_step (by exact bel0) hb) (an (hbox) (an ((by rw [hg]; exact (below_size (by exact bel0)) : w.heap.size ≤ gb252)) (an ((by rw [hg]; exact (below_size (by exact bel0)) : w.heap.size ≤ gb252)) (an ((by rw [hg]; exact Nat.ne_of_lt (blk_lt (blk_nw BK243.out)) : gb243 ≠ gb252)) (an ((by rw [hg]; exact Nat.ne_of_gt (blk_lt (blk_nw BK243.out)) : gb252 ≠ gb243)) (an ((by rw [hg]; exact Nat.ne_of_lt (blk_lt (blk_nw BK244.out)) : gb244 ≠ gb252)) (an ((by rw [hg]; exact Nat.ne_of_gt (blk_lt (blk_nw BK244.out)) : gb252 ≠ gb244)) (an ((by rw [hg]; exact Nat.ne_of_lt (blk_lt (blk_nw BK245.out)) : gb245 ≠ gb252)) (an ((by rw [hg]; exact Nat.ne_of_gt (blk_lt (blk_nw BK245.out)) : gb252 ≠ gb245)) (trivial)))))))))))))); clear HO251 BK243 BK244 BK245 HB; obtain ⟨HO251, BK243, BK244, BK245, HB, BK252, GW252, GE252, NB243_252, NB252_243, NB244_252, NB252_244, NB245_252, NB252_245, -⟩ := n_; clear hb hbox hg; have hnb30 := NB252_243.out; have hnc30 := NB243_252.out; have hnb31 := NB252_244.out; have hnc31 := NB244_252.out; have hnb32 := NB252_245.out; have hnc32 := NB245_252.out; obtain ⟨hcz33_0, hcz33_1⟩ := blkz2 BK252.out; have hfz33_0 := blkf BK252.out; obtain ⟨Ao34, co34, eo34⟩ := Kd.R_slice HO251.out; subst eo34) | ((with_reducible refine gate_store (t := 41) (p := 6) rfl ?_); refine store_event (t := 41) (p := 6) (v := ?vo_w35) (w1 := ((w29.setCell ⟨gb252, 0, none⟩ (.int .i64 t248)).setCell ⟨gb252, 1, none⟩ (.slice Ao34 t249.length co34))) ?hg ?ho ?hn ?hr ?_; (case ho => rfl); (case hg => rfl); (case hn => rfl); (case hr => first | (go_simp; done) | (go_simp; rfl)); intro w35 hw; have n0_ : Aside0 (Kd.R k82 82 w35 w.heap.size (fun k_ => k_ ≠ gb244) (.slice Ao34 t249.length co34) t249) := ⟨(by rw [hw]; exact (by exact Kd.R_mono (Kd.R_farN HO251.out BK252.out) (fun _ hk => hk.2)))⟩; have n1_ : Aside0 (w35.heap[gb243]? = some (.cells #[.int .i64 a0_0, .slice A0_1 l0_1.length c0_1] 41 (0, 0))) := ⟨(by rw [hw]; exact (by exact blk_kb BK243.out NB243_252.out))⟩; have n2_ : Aside0 (w35.heap[gb244]? = some (.cells #[.int .i64 a1_0, .int .i64 a1_1, .int .i64 a1_2] 82 (0, 0))) := ⟨(by rw [hw]; exact (by exact blk_kb BK244.out NB244_252.out))⟩; have n3_ : Aside0 (w35.heap[gb245]? = some (.cells #[.int .i64 0, .slice none 0 0] 41 (0, 0))) := ⟨(by rw [hw]; exact (by exact blk_kb BK245.out NB245_252.out))⟩; have n4_ : Aside0 (w35.heap[gb252]? = some (.cells #[.int .i64 t248, .slice Ao34 t249.length co34] 41 (0, 0))) := ⟨(by rw [hw]; exact (by (with_reducible repeat (first | refine blk_drewN ?_ _ | refine blk_drew ?_ | refine blk_alloc ?_ _)); exact blk_fill2 BK252.out))⟩; have n5_ : Aside0 (Below w.heap.size w w35) := ⟨(by rw [hw]; exact (by exact bel0))⟩; clear hw; clear HO251; clear BK243; clear BK244; clear BK245; clear BK252; clear HB; have HO251 := n0_; have BK243 := n1_; have BK244 := n2_; have BK245 := n3_; have BK252 := n4_; have HB := n5_; clear n0_ n1_ n2_ n3_ n4_ n5_; have hnb36 := NB244_245.out; have hnc36 := NB245_244.out; obtain ⟨hcz37_0, hcz37_1, hcz37_2⟩ := blkz3 BK244.out; have hfz37_0 := blkf BK244.out) | ((with_reducible refine gate_callee (f := 115) rfl ?_); refine goesL_ (some 20) rfl rfl Try.func115 (by kernel_rfl) rfl #[.pointer (some ⟨gb252, 0, none⟩), .agg #[.int .i64 a1_0, .int .i64 a1_1, .int .i64 a1_2]] rfl (by (try simp only [List.map_toArray, List.map_cons, List.map_nil]); first | done | rfl | (simp only [List.length_drop, List.length_take]; rfl)) ?_; (with_reducible refine (impl_Table_hear.calls kj2 gb252 t248 (fun k_ => some k_ = (.slice Ao34 t249.length co34 : Value).ownBlock) (.slice Ao34 t249.length co34) t249 a1_0 a1_1 a1_2 t253 t254 t255 w _ ?side1 ?side2 ?side3 ?side4 A24.out).mono ?_); (case side1 => exact bel0); (case side2 => exact blk_nw BK252.out); (case side3 => exact GE252.out); (case side4 => exact Kd.R_tight rfl HO251.out); rintro e w38 ⟨rfl, v256, ho0, hi, hb, hkp⟩; refine ⟨_, rfl, ?_⟩; have n_ := an (blk_kept (by exact blk_nw BK243.out) hkp (fun hs_ => Or.elim hs_ (fun hs_ => (fun e_ => (Kd.R_ne HO251.out BK243.out (by decide)) e_) hs_) (fun e_ => NB243_252.out e_))) (an (blk_kept (by exact blk_nw BK244.out) hkp (fun hs_ => Or.elim hs_ (fun hs_ => (fun e_ => (Kd.R_away HO251.out (fun _ hk => hk)) e_) hs_) (fun e_ => NB244_252.out e_))) (an (blk_kept (by exact blk_nw BK245.out) hkp (fun hs_ => Or.elim hs_ (fun hs_ => (fun e_ => (Kd.R_ne HO251.out BK245.out (by decide)) e_) hs_) (fun e_ => NB245_252.out e_))) (an (hi) (an (Kd.R_mono (ok' := fun k_ => k_ ≠ gb244) ho0 (fun k_ hk_ => Or.elim hk_ (fun hs_ => fun e_ => (Kd.R_away HO251.out (fun _ hk => hk)) (by rw [← e_]; exact hs_)) (fun hn_ => (Kd.freshB (blk_nw BK244.out) k_ hn_)))) (an (hb) (trivial)))))); clear BK243 BK244 BK245 BK252 HB HO251; obtain ⟨BK243, BK244, BK245, BK252, HO257, HB, -⟩ := n_; (try clear hb); (try clear hkp); (try clear ho0); obtain ⟨hcz39_0, hcz39_1⟩ := blkz2 BK252.out; have hfz39_0 := blkf BK252.out; obtain ⟨hcz40_0, hcz40_1⟩ := blkz2 BK245.out; have hfz40_0 := blkf BK245.out; obtain ⟨Ao41, co41, eo41⟩ := Kd.R_slice HO257.out; subst eo41) | ((with_reducible refine gate_store (t := 41) (p := 4) rfl ?_); refine store_event (t := 41) (p := 4) (v := ?vo_w42) (w1 := ((w38.setCell ⟨gb245, 0, none⟩ (.int .i64 t254)).setCell ⟨gb245, 1, none⟩ (.slice Ao41 t255.length co41))) ?hg ?ho ?hn ?hr ?_; (case ho => rfl); (case hg => rfl); (case hn => rfl); (case hr => first | (go_simp; done) | (go_simp; rfl)); intro w42 hw; have n0_ : Aside0 (Kd.R k82 82 w42 w.heap.size (fun k_ => k_ ≠ gb244) (.slice Ao41 t255.length co41) t255) := ⟨(by rw [hw]; exact (by exact (Kd.R_farN HO257.out BK245.out)))⟩; have n1_ : Aside0 (w42.heap[gb243]? = some (.cells #[.int .i64 a0_0, .slice A0_1 l0_1.length c0_1] 41 (0, 0))) := ⟨(by rw [hw]; exact (by exact blk_kb BK243.out NB243_245.out))⟩; have n2_ : Aside0 (w42.heap[gb244]? = some (.cells #[.int .i64 a1_0, .int .i64 a1_1, .int .i64 a1_2] 82 (0, 0))) := ⟨(by rw [hw]; exact (by exact blk_kb BK244.out NB244_245.out))⟩; have n3_ : Aside0 (w42.heap[gb245]? = some (.cells #[.int .i64 t254, .slice Ao41 t255.length co41] 41 (0, 0))) := ⟨(by rw [hw]; exact (by (with_reducible repeat (first | refine blk_drewN ?_ _ | refine blk_drew ?_ | refine blk_alloc ?_ _)); exact blk_fill2 BK245.out))⟩; have n4_ : Aside0 (w42.heap[gb252]? = some (.cells #[.int .i64 t254, .slice Ao41 t255.length co41] 41 (0, 0))) := ⟨(by rw [hw]; exact (by exact blk_kb BK252.out NB252_245.out))⟩; have n5_ : Aside0 (Below w.heap.size w w42) := ⟨(by rw [hw]; exact (by exact bel0))⟩; clear hw; clear HO257; clear BK243; clear BK244; clear BK245; clear BK252; clear HB; have HO257 := n0_; have BK243 := n1_; have BK244 := n2_; have BK245 := n3_; have BK252 := n4_; have HB := n5_; clear n0_ n1_ n2_ n3_ n4_ n5_))
    refine bodyPost_ret (results_ct rfl _ _ gb245 41 #[.int .i64 t254, .slice Ao41 t255.length co41] (0, 0) _ rfl (by exact blk_nw BK245.out) Try.underlying41 rfl (by kernel_rfl)) rfl ?_
    exact ⟨_, by first | rfl | (simp [errW_none, errW_some] <;> rfl) | (simp [*, errW_none, errW_some] <;> rfl), by exact Kd.R_nw (Kd.R_mono HO257.out (fun _ hk => trivial)), by exact bel0⟩

end Go.Proofs.Ytigoajblljolcaa.XFnExactHeard
