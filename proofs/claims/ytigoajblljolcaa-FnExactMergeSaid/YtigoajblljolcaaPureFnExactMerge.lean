/- The program's Merge gives what the reference's Merge gives, for all arguments; its result shares no memory with the arguments or another result. No condition. -/
import Derived.Test.YtigoajblljolcaaArgsFnExactMerge
namespace Go.Proofs.Ytigoajblljolcaa.Pure
open Go.RowKit Go.Proofs.Ytigoajblljolcaa.AFnExactMerge Go.Proofs.Ytigoajblljolcaa.XFnExactMerge Go.Proofs.YtigoajblljolcaaW.PrintWords Go.Proofs.YtigoajblljolcaaW.PrintLast
set_option linter.unusedSimpArgs false
set_option linter.unusedVariables false
theorem wrap_up {i : Int} {n : Nat} (h0 : 0 ≤ i) (h : i < (n : Int)) (hn : n ≤ 9223372036854775807) : wrap64 (i + 1) = i + 1 := by
  unfold wrap64; omega
theorem evPos {α : Type} {g : Nat → Option α} {r : α} (h : Ev (fun k => g (k + 1)) r) : Ev g r := by
  obtain ⟨K, hK⟩ := h
  refine ⟨K + 1, fun k hk => ?_⟩
  obtain ⟨m, rfl⟩ : ∃ m, k = m + 1 := ⟨k - 1, by omega⟩
  exact hK m (by omega)
theorem evConst {α : Type} {a : Option α} {r : α} (h : a = some r) : Ev (fun _ => a) r := ⟨0, fun _ _ => h⟩
theorem evShift {α : Type} {g : Nat → Option α} {r : α} (h : Ev g r) : Ev (fun k => g (k + 1)) r := by
  obtain ⟨K, hK⟩ := h
  exact ⟨K, fun k hk => hK (k + 1) (by omega)⟩
theorem evVal {α : Type} {g : Nat → Option α} {r r' : α} (h : Ev g r) (e : r = r') : Ev g r' := e ▸ h
theorem rd_lt {l : List Int} {i : Int} (h0 : 0 ≤ i) (h : i < (l.length : Int)) : rd l i = l[i.toNat]'(by omega) := by
  unfold rd; rw [List.getD_eq_getElem?_getD, List.getElem?_eq_getElem (by omega)]; rfl
theorem within_eq (a b c : Int) : impl_within.f a b c = some (decide (b ≤ a) && decide (a ≤ c)) := by
  unfold impl_within.f
  by_cases h : b ≤ a <;> simp [h]
def memB (a b c : Int) : Bool := decide (0 ≤ a) && decide (a ≤ 11) && (decide (0 ≤ b) && decide (b ≤ 3)) && (decide (0 ≤ c) && decide (c ≤ 1000))
theorem specMemberOk_eq (a b c : Int) : spec_MemberOk.f a b c = some (memB a b c) := by
  unfold spec_MemberOk.f memB
  by_cases h1 : 0 ≤ a <;> by_cases h2 : a ≤ 11 <;> by_cases h3 : 0 ≤ b <;> by_cases h4 : b ≤ 3 <;> by_cases h5 : 0 ≤ c <;> simp [h1, h2, h3, h4, h5] <;> omega
theorem implMemberOk_eq (a b c : Int) : impl_MemberOk.f a b c = some (memB a b c) := by
  unfold impl_MemberOk.f memB
  simp only [within_eq, Option.bind_some]
  by_cases h1 : 0 ≤ a <;> by_cases h2 : a ≤ 11 <;> by_cases h3 : 0 ≤ b <;> by_cases h4 : b ≤ 3 <;> simp [h1, h2, h3, h4]
/-! Tables of members: their size, copied, compared. -/
def cvM (x : S80) : S82 := ⟨x.f0, x.f1, x.f2⟩
theorem rdML_lt {l : List S80} {i : Int} (h0 : 0 ≤ i) (h : i < (l.length : Int)) : rd_T80 l i = l[i.toNat]'(by omega) := by
  unfold rd_T80; rw [List.getD_eq_getElem?_getD, List.getElem?_eq_getElem (by omega)]; rfl
theorem szTable_at (a x : Int) (l : List S80) (hl : l.length ≤ 9223372036854775807) (hx : -1 ≤ x) (hx' : x ≤ 1048576) : laws_szTable.f a l x = some (if (l.length : Int) ≤ x then x - (l.length : Int) else -1) := by
  unfold laws_szTable.f laws_szMemberS.f
  have w : wrap64 (x - (l.length : Int)) = x - l.length := by unfold wrap64; omega
  rw [w]
  by_cases h : (l.length : Int) ≤ x
  · rw [if_neg (by omega), if_pos h, Option.bind_some, if_neg (by omega)]
  · rw [if_pos (by omega), if_neg h, Option.bind_some, if_pos (by omega)]
theorem szTable_eq (a : Int) (l : List S80) (hl : l.length ≤ 9223372036854775807) : laws_szTable.f a l 1048576 = some (if (l.length : Int) ≤ 1048576 then 1048576 - (l.length : Int) else -1) := szTable_at a 1048576 l hl (by omega) (by omega)
theorem toMemberS_loop (l : List S80) (hl : l.length ≤ 1048576) (d : Nat) : ∀ (x : List S82) (i : Int), 0 ≤ i → i ≤ l.length → (l.length : Int) - i = d → x.length = l.length → x.take i.toNat = (l.map cvM).take i.toNat →
    Ev (fun k => laws_toMemberS.l0 k l x i) (l.map cvM) := by
  induction d with
  | zero =>
    intro x i h0 h1 hd hx ht
    have hge : ¬ i < (l.length : Int) := by omega
    refine evPos ?_
    simp only [laws_toMemberS.l0, if_neg hge]
    refine evConst ?_
    rw [List.take_of_length_le (by omega), List.take_of_length_le (by simp; omega)] at ht
    rw [ht]
  | succ d ih =>
    intro x i h0 h1 hd hx ht
    have hlt : i < (l.length : Int) := by omega
    have hlt' : i < (x.length : Int) := by omega
    refine evPos ?_
    have hw : wrap64 (i + 1) = i + 1 := wrap_up h0 hlt (by omega)
    simp only [laws_toMemberS.l0, if_pos hlt, if_pos h0, rdML_lt h0 hlt, if_pos hlt', laws_toMember.f, Option.bind_some, hw]
    refine ih _ (i + 1) (by omega) (by omega) (by omega) (by simp [hx]) ?_
    have e : (i + 1).toNat = i.toNat + 1 := by omega
    rw [e, List.take_succ_eq_append_getElem (by simp; omega), List.take_succ_eq_append_getElem (by simp; omega)]
    rw [List.take_set_of_le (Nat.le_refl _), ht, List.getElem_set_self, List.getElem_map]
    rfl
theorem toTable_ev (a : Int) (l : List S80) (hl : l.length ≤ 1048576) : Ev (fun k => laws_toTable.f k a l) (a, l.map cvM) := by
  unfold laws_toTable.f
  have h : Ev (fun k => laws_toMemberS.f k l) (l.map cvM) := by
    unfold laws_toMemberS.f
    have h1 : 0 ≤ (l.length : Int) := by omega
    have h2 : ((l.length : Int)).toNat ≤ 11728124029610 := by omega
    simp only [if_pos h1, if_pos h2]
    exact toMemberS_loop l hl l.length _ 0 (by omega) (by omega) (by omega) (by simp) (by simp)
  exact Ev.bind h (Ev.now _)
theorem eqMemberS_loop (l : List S82) (hl : l.length ≤ 1048576) (d : Nat) : ∀ (i : Int), 0 ≤ i → i ≤ l.length → (l.length : Int) - i = d → Ev (fun k => laws_eqMemberS.l0 k l l i) true := by
  induction d with
  | zero =>
    intro i h0 h1 hd
    have hge : ¬ i < (l.length : Int) := by omega
    refine evPos ?_
    simp only [laws_eqMemberS.l0, if_neg hge]
    exact Ev.now _
  | succ d ih =>
    intro i h0 h1 hd
    have hlt : i < (l.length : Int) := by omega
    refine evPos ?_
    have hw : wrap64 (i + 1) = i + 1 := wrap_up h0 hlt (by omega)
    simp only [laws_eqMemberS.l0, if_pos hlt, if_pos h0, hw, laws_eqMember.f, if_true, Option.bind_some]
    exact ih (i + 1) (by omega) (by omega) (by omega)
theorem eqTable_ev (a : Int) (l : List S82) (hl : l.length ≤ 1048576) : Ev (fun k => laws_eqTable.f k a l a l) true := by
  unfold laws_eqTable.f
  simp only [if_true]
  have h : Ev (fun k => laws_eqMemberS.f k l l) true := by
    unfold laws_eqMemberS.f
    simp only [if_true]
    exact eqMemberS_loop l hl l.length 0 (by omega) (by omega) (by omega)
  refine Ev.bind h ?_
  simp only [if_true]
  exact Ev.now _
/-! A table marked and found: what was marked is found so. -/
def marksM (a : Int) (n : Nat) : List S82 := (List.range n).map fun (i : Nat) => ⟨a + 3 * (i : Int), a + 3 * (i : Int) + 1, a + 3 * (i : Int) + 2⟩
theorem marksM_length (a : Int) (n : Nat) : (marksM a n).length = n := by simp [marksM]
theorem rdM_lt {l : List S82} {i : Int} (h0 : 0 ≤ i) (h : i < (l.length : Int)) : rd_T82 l i = l[i.toNat]'(by omega) := by
  unfold rd_T82; rw [List.getD_eq_getElem?_getD, List.getElem?_eq_getElem (by omega)]; rfl
theorem rdM_set {l : List S82} {i : Int} (h0 : 0 ≤ i) (h : i < (l.length : Int)) (v : S82) : rd_T82 (l.set i.toNat v) i = v := by
  rw [rdM_lt h0 (by simpa using h), List.getElem_set_self]
theorem marksM_rd (a : Int) (n : Nat) {i : Int} (h0 : 0 ≤ i) (h : i < (n : Int)) : rd_T82 (marksM a n) i = ⟨a + 3 * i, a + 3 * i + 1, a + 3 * i + 2⟩ := by
  rw [rdM_lt h0 (by rw [marksM_length]; exact h)]
  simp only [marksM, List.getElem_map, List.getElem_range]
  have e : ((i.toNat : Nat) : Int) = i := by omega
  rw [e]
theorem markMS_loop (n : Nat) (a : Int) (ha : 0 ≤ a) (hn : a + 3 * n ≤ 4611686018427387904) (d : Nat) : ∀ (x : List S82) (i : Int), 0 ≤ i → i ≤ n → (n : Int) - i = d → x.length = n → x.take i.toNat = (marksM a n).take i.toNat →
    Ev (fun k => laws_markMemberS.l0 k x (a + 3 * i) i) (a + 3 * n, marksM a n) := by
  induction d with
  | zero =>
    intro x i h0 h1 hd hx ht
    have hge : ¬ i < (x.length : Int) := by omega
    refine evPos ?_
    simp only [laws_markMemberS.l0, if_neg hge]
    refine evConst ?_
    have e : i.toNat = n := by omega
    have ei : i = n := by omega
    rw [e] at ht
    rw [List.take_of_length_le (by omega), List.take_of_length_le (by rw [marksM_length]; omega)] at ht
    rw [ht, ei]
  | succ d ih =>
    intro x i h0 h1 hd hx ht
    refine evPos ?_
    have hlt : i < (x.length : Int) := by omega
    have hw : wrap64 (i + 1) = i + 1 := by unfold wrap64; omega
    have w1 : wrap64 (a + 3 * i + 1) = a + 3 * i + 1 := by unfold wrap64; omega
    have w2 : wrap64 (a + 3 * i + 1 + 1) = a + 3 * i + 2 := by unfold wrap64; omega
    have w3 : wrap64 (a + 3 * i + 2 + 1) = a + 3 * (i + 1) := by unfold wrap64; omega
    simp only [laws_markMemberS.l0, if_pos hlt, if_pos h0, Option.bind_some, w1, w2, w3, hw, List.set_set, rdM_set h0 hlt]
    refine ih _ (i + 1) (by omega) (by omega) (by omega) (by simp [hx]) ?_
    have e : (i + 1).toNat = i.toNat + 1 := by omega
    have hi : i.toNat < (marksM a n).length := by rw [marksM_length]; omega
    have hi' : i.toNat < x.length := by omega
    rw [e, List.take_succ_eq_append_getElem hi, List.take_succ_eq_append_getElem (by simpa using hi'), List.take_set_of_le (Nat.le_refl _), ht, List.getElem_set_self, ← rdM_lt h0 (by rw [marksM_length]; omega), marksM_rd a n h0 (by omega)]
theorem markTab_ev (s : Int) (l : List S82) (a : Int) (ha : 0 ≤ a) (hn : a + 3 * l.length ≤ 4611686018427387904) : Ev (fun k => laws_markTable.f k s l a) (a + 3 * l.length, marksM a l.length) := by
  have h : Ev (fun k => laws_markMemberS.f k l a) (a + 3 * l.length, marksM a l.length) := by
    unfold laws_markMemberS.f
    have := markMS_loop l.length a ha hn l.length l 0 (by omega) (by omega) (by omega) rfl (by simp)
    simpa using this
  unfold laws_markTable.f
  refine Ev.bind h ?_
  exact Ev.now _
theorem heldMS_loop (n : Nat) (a : Int) (ha : 0 ≤ a) (hn : a + 3 * n ≤ 4611686018427387904) (d : Nat) : ∀ (i : Int), 0 ≤ i → i ≤ n → (n : Int) - i = d →
    Ev (fun k => laws_heldMemberS.l0 k (marksM a n) (a + 3 * i) i) (a + 3 * n) := by
  induction d with
  | zero =>
    intro i h0 h1 hd
    have hge : ¬ i < ((marksM a n).length : Int) := by rw [marksM_length]; omega
    refine evPos ?_
    simp only [laws_heldMemberS.l0, if_neg hge]
    exact evConst (by congr 1; omega)
  | succ d ih =>
    intro i h0 h1 hd
    refine evPos ?_
    have hlt : i < ((marksM a n).length : Int) := by rw [marksM_length]; omega
    have hw : wrap64 (i + 1) = i + 1 := by unfold wrap64; omega
    have w1 : wrap64 (a + 3 * i + 1) = a + 3 * i + 1 := by unfold wrap64; omega
    have w2 : wrap64 (a + 3 * i + 1 + 1) = a + 3 * i + 2 := by unfold wrap64; omega
    have w3 : wrap64 (a + 3 * i + 2 + 1) = a + 3 * (i + 1) := by unfold wrap64; omega
    have hr := marksM_rd a n h0 (by omega)
    simp only [laws_heldMemberS.l0, if_pos hlt, if_pos h0, hr, if_true, hw, w1, w2, w3]
    exact ih (i + 1) (by omega) (by omega) (by omega)
theorem heldTab_ev (s a : Int) (n : Nat) (ha : 0 ≤ a) (hn : a + 3 * n ≤ 4611686018427387904) : Ev (fun k => laws_heldTable.f k s (marksM a n) a) (a + 3 * n) := by
  have h : Ev (fun k => laws_heldMemberS.f k (marksM a n) a) (a + 3 * n) := by
    unfold laws_heldMemberS.f
    have := heldMS_loop n a ha hn n 0 (by omega) (by omega) (by omega)
    simpa using this
  unfold laws_heldTable.f
  refine Ev.bind h ?_
  have c1 : ¬ (a + 3 * (n : Int) < 0) := by omega
  simp only [if_neg c1]
  exact Ev.now _
/-! Where a member is: step by step, and by halves: one answer, of an ascending list. -/
abbrev MT := S82
def Rm (l : List MT) (i : Int) : MT := rd_T82 l i
/-- One step's test: a valid member, behind the one before it. -/
def chk (l : List MT) (i : Int) : Bool := memB (Rm l i).f0 (Rm l i).f1 (Rm l i).f2 && (decide (i = 0) || decide ((Rm l (i - 1)).f0 < (Rm l i).f0))
def Chk (l : List MT) : Prop := ∀ i : Int, 0 ≤ i → i < l.length → chk l i = true
theorem Chk.asc {l : List MT} (h : Chk l) : ∀ (d : Nat) (a b : Int), 0 ≤ a → a < b → b < l.length → b - a = d + 1 → (Rm l a).f0 < (Rm l b).f0 := by
  intro d
  induction d with
  | zero =>
    intro a b h0 h1 h2 hd
    have := h b (by omega) h2
    simp only [chk, Bool.and_eq_true, Bool.or_eq_true, decide_eq_true_eq] at this
    obtain rfl : a = b - 1 := by omega
    rcases this.2 with e | e
    · omega
    · exact e
  | succ d ih =>
    intro a b h0 h1 h2 hd
    have r := ih a (b - 1) h0 (by omega) (by omega) (by omega)
    have := h b (by omega) h2
    simp only [chk, Bool.and_eq_true, Bool.or_eq_true, decide_eq_true_eq] at this
    rcases this.2 with e | e
    · omega
    · omega
theorem Chk.lt {l : List MT} (h : Chk l) {a b : Int} (h0 : 0 ≤ a) (h1 : a < b) (h2 : b < l.length) : (Rm l a).f0 < (Rm l b).f0 := h.asc (b - a - 1).toNat a b h0 h1 h2 (by omega)
theorem Chk.uniq {l : List MT} (h : Chk l) {a b : Int} (h0 : 0 ≤ a) (h1 : a < l.length) (h2 : 0 ≤ b) (h3 : b < l.length) (e : (Rm l a).f0 = (Rm l b).f0) : a = b := by
  rcases Int.lt_trichotomy a b with c | c | c
  · have := h.lt h0 c h3; omega
  · exact c
  · have := h.lt h2 c h1; omega
/-- Where the number is: its place, or none. -/
def At (l : List MT) (id r : Int) : Prop := 0 ≤ r ∧ r < l.length ∧ (Rm l r).f0 = id
def Non (l : List MT) (id : Int) : Prop := ∀ j : Int, 0 ≤ j → j < l.length → (Rm l j).f0 ≠ id
theorem specFind_loop (l : List MT) (hl : l.length ≤ 1048576) (s id : Int) (d : Nat) : ∀ (i : Int), 0 ≤ i → i ≤ l.length → (l.length : Int) - i = d → (∀ j : Int, 0 ≤ j → j < i → (Rm l j).f0 ≠ id) →
    ∃ r, Ev (fun k => spec_l10find.l0 k id i s l) r ∧ (At l id r ∨ r = -1 ∧ Non l id) := by
  induction d with
  | zero =>
    intro i h0 h1 hd hn
    have hge : ¬ i < (l.length : Int) := by omega
    refine ⟨-1, evPos ?_, Or.inr ⟨rfl, fun j j0 j1 => hn j j0 (by omega)⟩⟩
    simp only [spec_l10find.l0, if_neg hge]
    exact Ev.now _
  | succ d ih =>
    intro i h0 h1 hd hn
    have hlt : i < (l.length : Int) := by omega
    by_cases c : (rd_T82 l i).f0 = id
    · refine ⟨i, evPos ?_, Or.inl ⟨h0, hlt, c⟩⟩
      simp only [spec_l10find.l0, if_pos hlt, if_pos h0, if_pos c]
      exact Ev.now _
    · obtain ⟨r, hr, hp⟩ := ih (i + 1) (by omega) (by omega) (by omega) (fun j j0 j1 => by
        by_cases e : j = i
        · subst e; exact c
        · exact hn j j0 (by omega))
      refine ⟨r, evPos ?_, hp⟩
      have hw : wrap64 (i + 1) = i + 1 := wrap_up h0 hlt (by omega)
      simp only [spec_l10find.l0, if_pos hlt, if_pos h0, if_neg c, hw]
      exact hr
theorem specFind_ev (l : List MT) (hl : l.length ≤ 1048576) (s id : Int) : ∃ r, Ev (fun k => spec_l10find.f k s l id) r ∧ (At l id r ∨ r = -1 ∧ Non l id) := by
  unfold spec_l10find.f
  exact specFind_loop l hl s id l.length 0 (by omega) (by omega) (by omega) (fun j j0 j1 => by omega)
theorem cmpI_neg (a b : Int) : impl_Table_member.cmpI a b < 0 ↔ a < b := by
  unfold impl_Table_member.cmpI
  by_cases h : a < b
  · simp [h]
  · by_cases h2 : a > b <;> simp [h, h2]
theorem cmpI_zero (a b : Int) : (impl_Table_member.cmpI a b == 0) = decide (a = b) := by
  unfold impl_Table_member.cmpI
  by_cases h : a < b
  · have : a ≠ b := by omega
    simp [h, this]
  · by_cases h2 : a > b
    · have : a ≠ b := by omega
      simp [h, h2, this]
    · have : a = b := by omega
      simp [this]
theorem srch_loop (l : List MT) (hl : l.length ≤ 1048576) (h : Chk l) (id : Int) (d : Nat) : ∀ (lo hi : Nat), lo ≤ hi → hi ≤ l.length → hi - lo ≤ d → (∀ j : Int, 0 ≤ j → j < lo → (Rm l j).f0 < id) → (∀ j : Int, hi ≤ j → j < l.length → id ≤ (Rm l j).f0) →
    ∃ r : Nat, r ≤ l.length ∧ (∀ j : Int, 0 ≤ j → j < r → (Rm l j).f0 < id) ∧ (∀ j : Int, r ≤ j → j < l.length → id ≤ (Rm l j).f0) ∧
      Ev (fun k => impl_Table_member.srchl0 k l id lo hi) ((r : Int), decide (r < l.length) && decide ((Rm l r).f0 = id)) := by
  induction d with
  | zero =>
    intro lo hi h0 h1 hd a b
    obtain rfl : hi = lo := by omega
    refine ⟨hi, h1, a, b, evPos ?_⟩
    have hge : ¬ hi < hi := by omega
    simp only [impl_Table_member.srchl0, if_neg hge, cmpI_zero]
    exact Ev.now _
  | succ d ih =>
    intro lo hi h0 h1 hd a b
    by_cases c : lo < hi
    · have em : ((lo : Int) + (hi : Int)) / 2 = (((lo + hi) / 2 : Nat) : Int) := by omega
      by_cases c2 : (Rm l (((lo : Int) + (hi : Int)) / 2)).f0 < id
      · obtain ⟨r, r1, ra, rb, hr⟩ := ih ((lo + hi) / 2 + 1) hi (by omega) h1 (by omega) (fun j j0 j1 => by
          by_cases e : j = ((lo : Int) + (hi : Int)) / 2
          · subst e; exact c2
          · have := h.lt j0 (show j < ((lo : Int) + (hi : Int)) / 2 by omega) (by omega); omega) b
        refine ⟨r, r1, ra, rb, evPos ?_⟩
        have c3 := (cmpI_neg (rd_T82 l (((lo : Int) + (hi : Int)) / 2)).f0 id).mpr c2
        simp only [impl_Table_member.srchl0, if_pos c, if_pos c3]
        exact hr
      · obtain ⟨r, r1, ra, rb, hr⟩ := ih lo ((lo + hi) / 2) (by omega) (by omega) (by omega) a (fun j j0 j1 => by
          by_cases e : j = ((lo : Int) + (hi : Int)) / 2
          · subst e; omega
          · have := h.lt (show 0 ≤ ((lo : Int) + (hi : Int)) / 2 by omega) (show ((lo : Int) + (hi : Int)) / 2 < j by omega) j1; omega)
        refine ⟨r, r1, ra, rb, evPos ?_⟩
        have c3 : ¬ impl_Table_member.cmpI (rd_T82 l (((lo : Int) + (hi : Int)) / 2)).f0 id < 0 := fun z => c2 ((cmpI_neg _ _).mp z)
        simp only [impl_Table_member.srchl0, if_pos c, if_neg c3]
        exact hr
    · obtain rfl : hi = lo := by omega
      refine ⟨hi, h1, a, b, evPos ?_⟩
      simp only [impl_Table_member.srchl0, if_neg c, cmpI_zero]
      exact Ev.now _
/-- By halves: the place, or where it would be. -/
theorem member_ev (l : List MT) (hl : l.length ≤ 1048576) (h : Chk l) (s id : Int) :
    ∃ r b, Ev (fun k => impl_Table_member.f k s l id) (r, b) ∧ 0 ≤ r ∧ r ≤ l.length ∧ (∀ j : Int, 0 ≤ j → j < r → (Rm l j).f0 < id) ∧ (∀ j : Int, r ≤ j → j < l.length → id ≤ (Rm l j).f0) ∧ (b = true ∧ At l id r ∨ b = false ∧ Non l id) := by
  unfold impl_Table_member.f impl_Table_member.srchf
  have h2 : l.length < 4611686018427387904 := by omega
  simp only [if_pos h2]
  obtain ⟨r, r1, ra, rb, hr⟩ := srch_loop l hl h id l.length 0 l.length (by omega) (by omega) (by omega) (fun j j0 j1 => by omega) (fun j j0 j1 => by omega)
  refine ⟨r, _, hr, by omega, by omega, ra, rb, ?_⟩
  by_cases c : r < l.length ∧ (Rm l r).f0 = id
  · left
    exact ⟨by simp [c.1, c.2], by omega, by omega, c.2⟩
  · right
    refine ⟨by
      by_cases c1 : r < l.length
      · have c2 : ¬ (Rm l r).f0 = id := fun z => c ⟨c1, z⟩
        simp [c2]
      · simp [c1], fun j j0 j1 e => ?_⟩
    have p1 := ra j j0
    have p2 := rb j
    by_cases z : j < r
    · have := p1 z; omega
    · have := rb r (by omega) (by omega)
      by_cases y : (r : Int) = j
      · subst y; exact c ⟨by omega, e⟩
      · have := h.lt (show (0 : Int) ≤ r by omega) (show (r : Int) < j by omega) j1; omega
/-! A table: what the program asks and what the reference asks is one. -/
def tailV (x : MT) : Bool := decide (x.f1 = 0) || decide (x.f1 = 3) || decide (x.f2 = 1000)
/-- A table is valid: as a proposition. -/
def TabP (s : Int) (l : List MT) : Prop := l.length ≤ 12 ∧ Chk l ∧ ∃ r, At l s r ∧ tailV (Rm l r) = true
theorem tail_if (x : MT) : (if x.f1 = 0 then (some true) else (if x.f1 = 3 then (some true) else (some (x.f2 == 1000)))) = some (tailV x) := by
  unfold tailV
  by_cases h1 : x.f1 = 0
  · simp [h1]
  · by_cases h2 : x.f1 = 3
    · simp [h2]
    · by_cases h3 : x.f2 = 1000 <;> simp [h1, h2, h3]
theorem specTab_loop (s : Int) (l : List MT) (hl : l.length ≤ 12) (d : Nat) : ∀ (i : Int), 0 ≤ i → i ≤ l.length → (l.length : Int) - i = d → (∀ j : Int, 0 ≤ j → j < i → chk l j = true) →
    ∃ b, Ev (fun k => spec_TableOk.l0 k i s l) b ∧ (b = true ↔ TabP s l) := by
  induction d with
  | zero =>
    intro i h0 h1 hd hc
    have hge : ¬ i < (l.length : Int) := by omega
    have hC : Chk l := fun j j0 j1 => hc j j0 (by omega)
    obtain ⟨r, hr, hp⟩ := specFind_ev l (by omega) s s
    rcases hp with hp | ⟨rfl, hp⟩
    · have g1 : r ≥ 0 := hp.1
      have g2 : 0 ≤ r := hp.1
      refine ⟨tailV (Rm l r), evPos ?_, fun h => ⟨hl, hC, r, hp, h⟩, fun ⟨_, _, r2, q, h⟩ => ?_⟩
      · simp only [spec_TableOk.l0, if_neg hge]
        refine Ev.bind hr ?_
        simp only [if_pos g1, if_pos g2, if_pos hp.2.1]
        exact evConst (tail_if (rd_T82 l r))
      · have := hC.uniq hp.1 hp.2.1 q.1 q.2.1 (hp.2.2.trans q.2.2.symm)
        rw [this]; exact h
    · refine ⟨false, evPos ?_, fun h => absurd h (by decide), fun ⟨_, _, r2, q, h⟩ => absurd q.2.2 (hp r2 q.1 q.2.1)⟩
      simp only [spec_TableOk.l0, if_neg hge]
      refine Ev.bind hr ?_
      have g1 : ¬ ((-1 : Int) ≥ 0) := by omega
      simp only [if_neg g1]
      exact Ev.now _
  | succ d ih =>
    intro i h0 h1 hd hc
    have hlt : i < (l.length : Int) := by omega
    have hw : wrap64 (i + 1) = i + 1 := wrap_up h0 hlt (by omega)
    have hw2 : wrap64 (i - 1) = i - 1 := by unfold wrap64; omega
    by_cases c : chk l i = true
    · obtain ⟨b, hb, hp⟩ := ih (i + 1) (by omega) (by omega) (by omega) (fun j j0 j1 => by
        by_cases e : j = i
        · subst e; exact c
        · exact hc j j0 (by omega))
      refine ⟨b, evPos ?_, hp⟩
      simp only [chk, Bool.and_eq_true, Bool.or_eq_true, decide_eq_true_eq] at c
      have c1 : memB (rd_T82 l i).f0 (rd_T82 l i).f1 (rd_T82 l i).f2 = true := c.1
      simp only [spec_TableOk.l0, if_pos hlt, if_pos h0, specMemberOk_eq, Option.bind_some, c1, if_true, hw, hw2]
      by_cases c2 : i > 0
      · have g1 : 0 ≤ i - 1 := by omega
        have g2 : i - 1 < (l.length : Int) := by omega
        have g3 : ¬ (rd_T82 l (i - 1)).f0 ≥ (rd_T82 l i).f0 := by
          rcases c.2 with e | e
          · omega
          · have e' : (rd_T82 l (i - 1)).f0 < (rd_T82 l i).f0 := e
            omega
        simp only [if_pos c2, if_pos g1, if_pos g2, if_neg g3]
        exact hb
      · simp only [if_neg c2]; exact hb
    · refine ⟨false, evPos ?_, fun h => absurd h (by decide), fun ⟨_, q, _⟩ => absurd (q i h0 hlt) c⟩
      simp only [spec_TableOk.l0, if_pos hlt, if_pos h0, specMemberOk_eq, Option.bind_some, hw, hw2]
      by_cases c1 : memB (rd_T82 l i).f0 (rd_T82 l i).f1 (rd_T82 l i).f2 = true
      · simp only [c1, if_true]
        have c2 : ¬ (i = 0) ∧ ¬ ((Rm l (i - 1)).f0 < (Rm l i).f0) := by
          simp only [chk, Bool.and_eq_true, Bool.or_eq_true, decide_eq_true_eq] at c
          have c1' : memB (Rm l i).f0 (Rm l i).f1 (Rm l i).f2 = true := c1
          exact ⟨fun e => c ⟨c1', Or.inl e⟩, fun e => c ⟨c1', Or.inr e⟩⟩
        have g0 : i > 0 := by omega
        have g1 : 0 ≤ i - 1 := by omega
        have g2 : i - 1 < (l.length : Int) := by omega
        have g3 : (rd_T82 l (i - 1)).f0 ≥ (rd_T82 l i).f0 := by
          have e' : ¬ ((rd_T82 l (i - 1)).f0 < (rd_T82 l i).f0) := c2.2
          omega
        simp only [if_pos g0, if_pos g1, if_pos g2, if_pos g3]
        exact Ev.now _
      · simp only [if_neg c1]
        exact Ev.now _
theorem implTab_loop (s : Int) (l : List MT) (hl : l.length ≤ 12) (d : Nat) : ∀ (i : Int), 0 ≤ i → i ≤ l.length → (l.length : Int) - i = d → (∀ j : Int, 0 ≤ j → j < i → chk l j = true) →
    ∃ b, Ev (fun k => impl_TableOk.l0 k l (l.length : Int) i s l) b ∧ (b = true ↔ TabP s l) := by
  induction d with
  | zero =>
    intro i h0 h1 hd hc
    have hge : ¬ i < (l.length : Int) := by omega
    have hC : Chk l := fun j j0 j1 => hc j j0 (by omega)
    obtain ⟨r, b, hr, _, _, _, _, hp⟩ := member_ev l (by omega) hC s s
    rcases hp with ⟨rfl, hp⟩ | ⟨rfl, hp⟩
    · have g2 : 0 ≤ r := hp.1
      refine ⟨tailV (Rm l r), evPos ?_, fun h => ⟨hl, hC, r, hp, h⟩, fun ⟨_, _, r2, q, h⟩ => ?_⟩
      · simp only [impl_TableOk.l0, if_neg hge]
        refine Ev.bind hr ?_
        simp only [if_true, if_pos g2, if_pos hp.2.1]
        exact evConst (tail_if (rd_T82 l r))
      · have := hC.uniq hp.1 hp.2.1 q.1 q.2.1 (hp.2.2.trans q.2.2.symm)
        rw [this]; exact h
    · refine ⟨false, evPos ?_, fun h => absurd h (by decide), fun ⟨_, _, r2, q, h⟩ => absurd q.2.2 (hp r2 q.1 q.2.1)⟩
      simp only [impl_TableOk.l0, if_neg hge]
      refine Ev.bind hr ?_
      simp only [Bool.false_eq_true, if_false]
      exact Ev.now _
  | succ d ih =>
    intro i h0 h1 hd hc
    have hlt : i < (l.length : Int) := by omega
    have hw : wrap64 (i + 1) = i + 1 := wrap_up h0 hlt (by omega)
    have hw2 : wrap64 (i - 1) = i - 1 := by unfold wrap64; omega
    by_cases c : chk l i = true
    · obtain ⟨b, hb, hp⟩ := ih (i + 1) (by omega) (by omega) (by omega) (fun j j0 j1 => by
        by_cases e : j = i
        · subst e; exact c
        · exact hc j j0 (by omega))
      refine ⟨b, evPos ?_, hp⟩
      simp only [chk, Bool.and_eq_true, Bool.or_eq_true, decide_eq_true_eq] at c
      have c1 : memB (rd_T82 l i).f0 (rd_T82 l i).f1 (rd_T82 l i).f2 = true := c.1
      simp only [impl_TableOk.l0, if_pos hlt, if_pos h0, implMemberOk_eq, Option.bind_some, c1, if_true, hw, hw2]
      by_cases c2 : i > 0
      · have g1 : 0 ≤ i - 1 := by omega
        have g2 : i - 1 < (l.length : Int) := by omega
        have g3 : ¬ (rd_T82 l (i - 1)).f0 ≥ (rd_T82 l i).f0 := by
          rcases c.2 with e | e
          · omega
          · have e' : (rd_T82 l (i - 1)).f0 < (rd_T82 l i).f0 := e
            omega
        simp only [if_pos c2, if_pos g1, if_pos g2, if_neg g3]
        exact hb
      · simp only [if_neg c2]; exact hb
    · refine ⟨false, evPos ?_, fun h => absurd h (by decide), fun ⟨_, q, _⟩ => absurd (q i h0 hlt) c⟩
      simp only [impl_TableOk.l0, if_pos hlt, if_pos h0, implMemberOk_eq, Option.bind_some, hw, hw2]
      by_cases c1 : memB (rd_T82 l i).f0 (rd_T82 l i).f1 (rd_T82 l i).f2 = true
      · simp only [c1, if_true]
        have c2 : ¬ (i = 0) ∧ ¬ ((Rm l (i - 1)).f0 < (Rm l i).f0) := by
          simp only [chk, Bool.and_eq_true, Bool.or_eq_true, decide_eq_true_eq] at c
          have c1' : memB (Rm l i).f0 (Rm l i).f1 (Rm l i).f2 = true := c1
          exact ⟨fun e => c ⟨c1', Or.inl e⟩, fun e => c ⟨c1', Or.inr e⟩⟩
        have g0 : i > 0 := by omega
        have g1 : 0 ≤ i - 1 := by omega
        have g2 : i - 1 < (l.length : Int) := by omega
        have g3 : (rd_T82 l (i - 1)).f0 ≥ (rd_T82 l i).f0 := by
          have e' : ¬ ((rd_T82 l (i - 1)).f0 < (rd_T82 l i).f0) := c2.2
          omega
        simp only [if_pos g0, if_pos g1, if_pos g2, if_pos g3]
        exact Ev.now _
      · simp only [if_neg c1]
        exact Ev.now _
/-- Both say one thing: whether the table is valid. -/
theorem tableOk_ev (s : Int) (l : List MT) (hl : l.length ≤ 1048576) : ∃ b, Ev (fun k => spec_TableOk.f k s l) b ∧ Ev (fun k => impl_TableOk.f k s l) b ∧ (b = true ↔ TabP s l) := by
  unfold spec_TableOk.f impl_TableOk.f
  by_cases c : (l.length : Int) > 12
  · refine ⟨false, by simp only [if_pos c]; exact Ev.now _, by simp only [if_pos c]; exact Ev.now _, fun h => absurd h (by decide), fun h => ?_⟩
    have := h.1; omega
  · obtain ⟨b1, e1, p1⟩ := specTab_loop s l (by omega) l.length 0 (by omega) (by omega) (by omega) (fun j j0 j1 => by omega)
    obtain ⟨b2, e2, p2⟩ := implTab_loop s l (by omega) l.length 0 (by omega) (by omega) (by omega) (fun j j0 j1 => by omega)
    have : b1 = b2 := by
      cases b1 <;> cases b2 <;> simp_all
    subst this
    exact ⟨b1, by simp only [if_neg c]; exact e1, by simp only [if_neg c]; exact e2, p1⟩
theorem implOwnT_eq (s : Int) (l : List MT) (h : l.length ≤ 1048576) : impl_Table_own.f s l = some (s, l) := by
  unfold impl_Table_own.f impl_Member_134.f
  rw [if_pos (by omega), Option.bind_some]
theorem specOwnT_eq (s : Int) (l : List MT) (h : l.length ≤ 1048576) : spec_l10own.f s l = some (s, l) := by
  unfold spec_l10own.f
  simp only [Option.bind_some, List.nil_append, List.length_nil, Nat.zero_add]
  exact if_pos (by omega)
/-! What is said of a member: the reference's and the program's way are one. -/
theorem Rm_get {l : List MT} {i : Int} (h0 : 0 ≤ i) (h : i < (l.length : Int)) : Rm l i = l[i.toNat]'(by omega) := by
  unfold Rm rd_T82; rw [List.getD_eq_getElem?_getD, List.getElem?_eq_getElem (by omega)]; rfl
theorem Chk.mk' {l : List MT} (h1 : ∀ i : Int, 0 ≤ i → i < l.length → memB (Rm l i).f0 (Rm l i).f1 (Rm l i).f2 = true) (h2 : ∀ i : Int, 0 < i → i < l.length → (Rm l (i - 1)).f0 < (Rm l i).f0) : Chk l := by
  intro i h0 hl
  unfold chk
  rw [h1 i h0 hl]
  by_cases c : i = 0
  · simp [c]
  · simp [h2 i (by omega) hl]
theorem Chk.mem {l : List MT} (h : Chk l) {i : Int} (h0 : 0 ≤ i) (hl : i < l.length) : memB (Rm l i).f0 (Rm l i).f1 (Rm l i).f2 = true := by
  have := h i h0 hl
  simp only [chk, Bool.and_eq_true] at this
  exact this.1
theorem Rm_set_eq {l : List MT} {i : Int} (h0 : 0 ≤ i) (h : i < (l.length : Int)) (x : MT) : Rm (l.set i.toNat x) i = x := by
  rw [Rm_get h0 (by simpa using h), List.getElem_set_self]
theorem Rm_set_ne {l : List MT} {i j : Int} (h0 : 0 ≤ i) (j0 : 0 ≤ j) (j1 : j < (l.length : Int)) (h : j ≠ i) (x : MT) : Rm (l.set i.toNat x) j = Rm l j := by
  rw [Rm_get j0 (by simpa using j1), Rm_get j0 j1, List.getElem_set_ne (by omega)]
theorem Chk.set_ {l : List MT} (h : Chk l) {i : Int} (h0 : 0 ≤ i) (h1 : i < (l.length : Int)) (x : MT) (hx : memB x.f0 x.f1 x.f2 = true) (he : x.f0 = (Rm l i).f0) : Chk (l.set i.toNat x) := by
  have f : ∀ j : Int, 0 ≤ j → j < l.length → (Rm (l.set i.toNat x) j).f0 = (Rm l j).f0 := by
    intro j j0 j1
    by_cases c : j = i
    · subst c; rw [Rm_set_eq j0 j1]; exact he
    · rw [Rm_set_ne h0 j0 j1 c]
  refine Chk.mk' (fun j j0 j1 => ?_) (fun j j0 j1 => ?_)
  · rw [List.length_set] at j1
    by_cases c : j = i
    · subst c; rw [Rm_set_eq j0 j1]; exact hx
    · rw [Rm_set_ne h0 j0 j1 c]; exact h.mem j0 j1
  · rw [List.length_set] at j1
    rw [f j (by omega) j1, f (j - 1) (by omega) (by omega)]
    exact h.lt (by omega) (by omega) j1
def insV (l : List MT) (r : Nat) (x : MT) : List MT := l.take r ++ [x] ++ l.drop r
theorem insV_len (l : List MT) (r : Nat) (x : MT) (h : r ≤ l.length) : (insV l r x).length = l.length + 1 := by
  unfold insV; simp; omega
theorem Rm_ins_lt {l : List MT} {r j : Int} {x : MT} (h1 : r ≤ l.length) (j0 : 0 ≤ j) (j1 : j < r) : Rm (insV l r.toNat x) j = Rm l j := by
  rw [Rm_get j0 (by rw [insV_len _ _ _ (by omega)]; omega), Rm_get j0 (by omega)]
  simp only [insV]
  rw [List.getElem_append_left (by simp; omega), List.getElem_append_left (by simp; omega), List.getElem_take]
theorem Rm_ins_eq {l : List MT} {r : Int} {x : MT} (h0 : 0 ≤ r) (h1 : r ≤ l.length) : Rm (insV l r.toNat x) r = x := by
  rw [Rm_get h0 (by rw [insV_len _ _ _ (by omega)]; omega)]
  simp only [insV]
  rw [List.getElem_append_left (by simp; omega), List.getElem_append_right (by simp; omega)]
  simp
theorem Rm_ins_gt {l : List MT} {r j : Int} {x : MT} (h0 : 0 ≤ r) (h1 : r ≤ l.length) (j0 : r < j) (j1 : j ≤ l.length) : Rm (insV l r.toNat x) j = Rm l (j - 1) := by
  rw [Rm_get (by omega) (by rw [insV_len _ _ _ (by omega)]; omega), Rm_get (by omega) (by omega)]
  simp only [insV]
  rw [List.getElem_append_right (by simp; omega), List.getElem_drop]
  congr 1
  simp
  omega
theorem Chk.ins {l : List MT} (h : Chk l) {r : Int} (h0 : 0 ≤ r) (h1 : r ≤ (l.length : Int)) (x : MT) (hx : memB x.f0 x.f1 x.f2 = true) (ha : ∀ j : Int, 0 ≤ j → j < r → (Rm l j).f0 < x.f0) (hb : ∀ j : Int, r ≤ j → j < l.length → x.f0 < (Rm l j).f0) : Chk (insV l r.toNat x) := by
  have hn := insV_len l r.toNat x (by omega)
  refine Chk.mk' (fun j j0 j1 => ?_) (fun j j0 j1 => ?_)
  · rcases Int.lt_trichotomy j r with c | c | c
    · rw [Rm_ins_lt h1 j0 c]; exact h.mem j0 (by omega)
    · subst c; rw [Rm_ins_eq h0 h1]; exact hx
    · rw [Rm_ins_gt h0 h1 c (by omega)]; exact h.mem (by omega) (by omega)
  · rcases Int.lt_trichotomy j r with c | c | c
    · rw [Rm_ins_lt h1 (by omega) c, Rm_ins_lt h1 (by omega) (by omega)]; exact h.lt (by omega) (by omega) (by omega)
    · subst c; rw [Rm_ins_eq h0 h1, Rm_ins_lt h1 (by omega) (by omega)]; exact ha _ (by omega) (by omega)
    · rw [Rm_ins_gt h0 h1 c (by omega)]
      by_cases c2 : j - 1 = r
      · rw [c2, Rm_ins_eq h0 h1]; exact hb r (by omega) (by omega)
      · rw [Rm_ins_gt h0 h1 (by omega) (by omega)]; exact h.lt (by omega) (by omega) (by omega)
theorem say_loop (l : List MT) (hl : l.length ≤ 1048576) (s id b1 b2 : Int) (r : Int) (h1 : r ≤ l.length) (ha : ∀ j : Int, 0 ≤ j → j < r → (Rm l j).f0 < id) (hb : ∀ j : Int, r ≤ j → j < l.length → ¬ (Rm l j).f0 < id) (d : Nat) : ∀ i : Int, 0 ≤ i → i ≤ r → r - i = d →
    Ev (fun k => spec_l10say.l0 k i s l id b1 b2) (true, s, insV l r.toNat (⟨id, b1, b2⟩ : MT)) := by
  induction d with
  | zero =>
    intro i h0 hi hd
    obtain rfl : i = r := by omega
    refine evPos ?_
    have n1 : ([] : List (S82)).length + (l.take i.toNat).length < 5864062014805 := by simp; omega
    have n2 : (([] : List (S82)) ++ l.take i.toNat).length < 5864062014805 := by simp; omega
    have n3 : ((([] : List (S82)) ++ l.take i.toNat) ++ [(⟨id, b1, b2⟩ : S82)]).length + (l.drop i.toNat).length < 5864062014805 := by simp; omega
    by_cases c : i < (l.length : Int)
    · have c2 : ¬ (rd_T82 l i).f0 < id := hb i (by omega) c
      simp only [spec_l10say.l0, if_pos c, if_pos h0, if_neg c2, if_pos h1, Option.bind_some, if_pos n1, if_pos n2, if_pos n3]
      exact Ev.now _
    · simp only [spec_l10say.l0, if_neg c, if_pos h0, if_pos h1, Option.bind_some, if_pos n1, if_pos n2, if_pos n3]
      exact Ev.now _
  | succ d ih =>
    intro i h0 hi hd
    have c : i < (l.length : Int) := by omega
    have c2 : (rd_T82 l i).f0 < id := ha i h0 (by omega)
    have hw : wrap64 (i + 1) = i + 1 := wrap_up h0 c (by omega)
    refine evPos ?_
    simp only [spec_l10say.l0, if_pos c, if_pos h0, if_pos c2, hw]
    exact ih (i + 1) (by omega) (by omega) (by omega)
def beatV (a0 a1 a2 b0 b1 b2 : Int) : Bool := decide (a0 = b0) && (decide (a2 > b2) || decide (a2 = b2) && decide (a1 > b1))
theorem specBeats_eq (a0 a1 a2 b0 b1 b2 : Int) : spec_Beats.f a0 a1 a2 b0 b1 b2 = some (beatV a0 a1 a2 b0 b1 b2) := by
  unfold spec_Beats.f beatV
  by_cases h : a0 = b0 <;> by_cases h2 : a2 > b2 <;> by_cases h3 : a2 = b2 <;> simp [h, h2, h3]
theorem implBeats_eq (a0 a1 a2 b0 b1 b2 : Int) : impl_Beats.f a0 a1 a2 b0 b1 b2 = some (beatV a0 a1 a2 b0 b1 b2) := by
  unfold impl_Beats.f beatV
  by_cases h : a0 = b0 <;> by_cases h2 : a2 > b2 <;> by_cases h3 : a2 = b2 <;> simp [h, h2, h3]
theorem hearM_mem (s : Int) (y : MT) (b0 b1 b2 : Int) (hy : memB y.f0 y.f1 y.f2 = true) (hb : memB b0 b1 b2 = true) (e : y.f0 = b0) : memB (hearM s y b0 b1 b2).f0 (hearM s y b0 b1 b2).f1 (hearM s y b0 b1 b2).f2 = true ∧ (hearM s y b0 b1 b2).f0 = y.f0 := by
  have hb' := hb
  simp only [memB, Bool.and_eq_true, decide_eq_true_eq] at hy hb'
  unfold hearM
  have w : b2 < 1000 → wrap64 (b2 + 1) = b2 + 1 := by intro h; unfold wrap64; omega
  repeat' split
  all_goals first
    | exact ⟨hb, e.symm⟩
    | (refine ⟨?_, rfl⟩
       simp only [memB, Bool.and_eq_true, decide_eq_true_eq]
       first
         | (rw [w (by assumption)]; omega)
         | omega)
/-- One saying: the same answer, and a valid list again. -/
theorem say_ev (s : Int) (l : List MT) (hl : l.length ≤ 1048576) (hC : Chk l) (id b1 b2 : Int) (hm : memB id b1 b2 = true) :
    ∃ (c : Bool) (l' : List MT), Chk l' ∧ l'.length ≤ l.length + 1 ∧ Ev (fun k => spec_l10say.f k s l id b1 b2) (c, s, l') ∧ Ev (fun k => impl_Table_hear.f k s l id b1 b2) (c, s, l') := by
  obtain ⟨r, hr, hp⟩ := specFind_ev l hl s id
  obtain ⟨r2, b, hr2, r0, r1, ra, rb, hp2⟩ := member_ev l hl hC s id
  unfold spec_l10say.f impl_Table_hear.f
  rcases hp with hp | ⟨rfl, hp⟩
  · rcases hp2 with ⟨rfl, hp2⟩ | ⟨rfl, hp2⟩
    · have e := hC.uniq hp.1 hp.2.1 hp2.1 hp2.2.1 (hp.2.2.trans hp2.2.2.symm)
      subst e
      have g1 : ¬ r < 0 := by have := hp.1; omega
      have hbe : beatV id b1 b2 (rd_T82 l r).f0 (rd_T82 l r).f1 (rd_T82 l r).f2 = beatV id b1 b2 (Rm l r).f0 (Rm l r).f1 (Rm l r).f2 := rfl
      cases hv : beatV id b1 b2 (rd_T82 l r).f0 (rd_T82 l r).f1 (rd_T82 l r).f2 with
      | false =>
        refine ⟨false, l, hC, by omega, ?_, ?_⟩
        · refine Ev.bind hr ?_
          simp only [if_neg g1, if_pos hp.1, if_pos hp.2.1, specBeats_eq, hv, Option.bind_some, Bool.false_eq_true, if_false]
          exact Ev.now _
        · refine Ev.bind hr2 ?_
          simp only [if_true, if_pos hp.1, if_pos hp.2.1, implBeats_eq, hv, Option.bind_some, Bool.false_eq_true, if_false]
          exact Ev.now _
      | true =>
        have hh := hearM_mem s (Rm l r) id b1 b2 (hC.mem hp.1 hp.2.1) hm hp.2.2
        refine ⟨true, l.set r.toNat (hearM s (rd_T82 l r) id b1 b2), hC.set_ hp.1 hp.2.1 _ hh.1 hh.2, by simp, ?_, ?_⟩
        · refine Ev.bind hr ?_
          simp only [if_neg g1, if_pos hp.1, if_pos hp.2.1, specBeats_eq, hv, Option.bind_some, if_true]
          by_cases c1 : id = s
          · by_cases c2 : (rd_T82 l r).f1 = 0
            · have c2' : ¬ (rd_T82 l r).f1 = 3 := by omega
              by_cases c3 : b1 = 0
              · simp only [if_pos c1, if_pos c2, if_pos c3]
                refine evPos ?_
                simp only [spec_l10say.j1, Bool.false_eq_true, if_false, if_pos c1, if_pos hp.1, if_pos hp.2.1, if_neg c2', hearM, if_pos c2, if_pos c3, ite_self]
                exact Ev.now _
              · simp only [if_pos c1, if_pos c2, if_neg c3]
                refine evPos ?_
                by_cases c4 : b2 < 1000
                · simp only [spec_l10say.j1, c4, decide_true, if_true, if_pos c1, if_pos hp.1, if_pos hp.2.1, hearM, if_pos c2, if_neg c3]
                  exact Ev.now _
                · simp only [spec_l10say.j1, c4, decide_false, Bool.false_eq_true, if_false, if_pos c1, if_pos hp.1, if_pos hp.2.1, if_neg c2', hearM]
                  exact Ev.now _
            · simp only [if_pos c1, if_neg c2]
              refine evPos ?_
              by_cases c3 : (rd_T82 l r).f1 = 3
              · by_cases c4 : b2 < 1000
                · simp only [spec_l10say.j1, Bool.false_eq_true, if_false, if_pos c1, if_pos hp.1, if_pos hp.2.1, if_pos c3, if_pos c4, hearM, if_neg c2]
                  exact Ev.now _
                · simp only [spec_l10say.j1, Bool.false_eq_true, if_false, if_pos c1, if_pos hp.1, if_pos hp.2.1, if_pos c3, if_neg c4, hearM]
                  exact Ev.now _
              · simp only [spec_l10say.j1, Bool.false_eq_true, if_false, if_pos c1, if_pos hp.1, if_pos hp.2.1, if_neg c3, hearM, if_neg c2, ite_self]
                exact Ev.now _
          · simp only [if_neg c1]
            refine evPos ?_
            simp only [spec_l10say.j1, Bool.false_eq_true, if_false, if_neg c1, if_pos hp.1, if_pos hp.2.1, hearM]
            exact Ev.now _
        · refine Ev.bind hr2 ?_
          simp only [if_true, if_pos hp.1, if_pos hp.2.1, implBeats_eq, hv, Option.bind_some]
          exact Ev.now _
    · exact absurd hp.2.2 (hp2 r hp.1 hp.2.1)
  · rcases hp2 with ⟨rfl, hp2⟩ | ⟨rfl, hp2⟩
    · exact absurd hp2.2.2 (hp r2 hp2.1 hp2.2.1)
    · have g1 : (-1 : Int) < 0 := by omega
      have hb' : ∀ j : Int, r2 ≤ j → j < l.length → id < (Rm l j).f0 := fun j j0 j1 => by
        have a := rb j j0 j1
        have b := hp2 j (by omega) j1
        omega
      refine ⟨true, insV l r2.toNat (⟨id, b1, b2⟩ : MT), hC.ins r0 r1 _ hm ra hb', by rw [insV_len _ _ _ (by omega)]; omega, ?_, ?_⟩
      · refine Ev.bind hr ?_
        simp only [if_pos g1]
        exact say_loop l hl s id b1 b2 r2 r1 ra (fun j j0 j1 => by have := hb' j j0 j1; omega) r2.toNat 0 (by omega) r0 (by omega)
      · refine Ev.bind hr2 ?_
        have i1 : [(⟨id, b1, b2⟩ : S82)].length = 1 := rfl
        simp only [Bool.false_eq_true, if_false, impl_Member_154.f, if_pos r0, if_pos r1, if_pos i1, if_pos hl, Option.bind_some]
        exact Ev.now _
theorem merge_loop (u s : Int) (m : List MT) (hm : m.length ≤ 12) (hC : Chk m) (d : Nat) : ∀ (acc : Bool) (i : Int) (x : List MT), 0 ≤ i → i ≤ m.length → (m.length : Int) - i = d → Chk x → (x.length : Int) ≤ 12 + i →
    ∃ (v : Bool) (x' : List MT), x'.length ≤ 24 ∧ Ev (fun k => spec_Merge.l0 k acc i u m s x) (s, x', v) ∧ Ev (fun k => impl_Table_merge.l0 k acc m (m.length : Int) i s x) (v, s, x') := by
  induction d with
  | zero =>
    intro acc i x h0 h1 hd hx hn
    have c : ¬ i < (m.length : Int) := by omega
    refine ⟨acc, x, by omega, evPos ?_, evPos ?_⟩
    · simp only [spec_Merge.l0, if_neg c]; exact Ev.now _
    · simp only [impl_Table_merge.l0, if_neg c]; exact Ev.now _
  | succ d ih =>
    intro acc i x h0 h1 hd hx hn
    have c : i < (m.length : Int) := by omega
    have hw : wrap64 (i + 1) = i + 1 := wrap_up h0 c (by omega)
    obtain ⟨v, x', hx', hn', s1, s2⟩ := say_ev s x (by omega) hx (rd_T82 m i).f0 (rd_T82 m i).f1 (rd_T82 m i).f2 (hC.mem h0 c)
    cases v with
    | false =>
      obtain ⟨w, y, hy, e1, e2⟩ := ih acc (i + 1) x' (by omega) (by omega) (by omega) hx' (by omega)
      refine ⟨w, y, hy, evPos ?_, evPos ?_⟩
      · simp only [spec_Merge.l0, if_pos c, if_pos h0, hw]
        refine Ev.bind s1 ?_
        simp only [Bool.false_eq_true, if_false]
        exact e1
      · simp only [impl_Table_merge.l0, if_pos c, if_pos h0, hw]
        refine Ev.bind s2 ?_
        simp only [Bool.false_eq_true, if_false]
        exact e2
    | true =>
      obtain ⟨w, y, hy, e1, e2⟩ := ih true (i + 1) x' (by omega) (by omega) (by omega) hx' (by omega)
      refine ⟨w, y, hy, evPos ?_, evPos ?_⟩
      · simp only [spec_Merge.l0, if_pos c, if_pos h0, hw]
        refine Ev.bind s1 ?_
        simp only [if_true]
        exact e1
      · simp only [impl_Table_merge.l0, if_pos c, if_pos h0, hw]
        refine Ev.bind s2 ?_
        simp only [if_true]
        exact e2
theorem merge_ev (s u : Int) (l m : List MT) (hl : l.length ≤ 1048576) (hm : m.length ≤ 1048576) : ∃ R : Int × List MT × Bool, R.2.1.length ≤ 24 ∧ Ev (fun k => spec_Merge.f k s l u m) R ∧ Ev (fun k => impl_Merge.f k s l u m) R := by
  obtain ⟨b1, e1, e2, hb1⟩ := tableOk_ev s l hl
  obtain ⟨b2, e3, e4, hb2⟩ := tableOk_ev u m hm
  have jt : Ev (fun k => spec_Merge.j0 k true s l u m) (0, [], false) := by
    refine evPos ?_
    simp only [spec_Merge.j0, if_true]
    exact Ev.now _
  have ji : Ev (fun k => impl_Merge.j0 k true s l u m) (0, [], false) := by
    refine evPos ?_
    simp only [impl_Merge.j0, if_true]
    exact Ev.now _
  unfold spec_Merge.f impl_Merge.f
  cases b1 with
  | false =>
    refine ⟨(0, [], false), by simp, ?_, ?_⟩
    · refine Ev.bind e1 ?_
      simp only [Bool.false_eq_true, if_false]
      exact jt
    · refine Ev.bind e2 ?_
      simp only [Bool.false_eq_true, if_false]
      exact ji
  | true =>
    cases b2 with
    | false =>
      refine ⟨(0, [], false), by simp, ?_, ?_⟩
      · refine Ev.bind e1 ?_
        simp only [if_true]
        refine Ev.bind e3 ?_
        simp only [Bool.not_false]
        exact jt
      · refine Ev.bind e2 ?_
        simp only [if_true]
        refine Ev.bind e4 ?_
        simp only [Bool.not_false]
        exact ji
    | true =>
      have h12 := (hb1.mp rfl).1
      obtain ⟨v, x', hx', r1, r2⟩ := merge_loop u s m (hb2.mp rfl).1 (hb2.mp rfl).2.1 m.length false 0 l (by omega) (by omega) (by omega) (hb1.mp rfl).2.1 (by omega)
      refine ⟨(s, x', v), hx', ?_, ?_⟩
      · refine Ev.bind e1 ?_
        simp only [if_true]
        refine Ev.bind e3 ?_
        simp only [Bool.not_true]
        refine evPos ?_
        simp only [spec_Merge.j0, Bool.false_eq_true, if_false, specOwnT_eq s l hl, Option.bind_some]
        exact r1
      · refine Ev.bind e2 ?_
        simp only [if_true]
        refine Ev.bind e4 ?_
        simp only [Bool.not_true]
        refine evPos ?_
        simp only [impl_Merge.j0, Bool.false_eq_true, if_false, implOwnT_eq s l hl, Option.bind_some, impl_Table_merge.f]
        exact Ev.bind r2 (Ev.now _)
theorem FnExactMerge : AFnExactMerge.Stmt := by
  intro s l u m _ hl _ _ hm _
  suffices h : Ev (fun k => laws_FnExactMerge.f k s l u m) true from h.rounds
  unfold laws_FnExactMerge.f
  rw [szTable_eq s l hl]
  simp only [Option.bind_some]
  by_cases h : (l.length : Int) ≤ 1048576
  · have h2 : ¬ ((1048576 : Int) - l.length < 0) := by omega
    simp only [if_pos h, if_neg h2]
    rw [szTable_at u (1048576 - (l.length : Int)) m hm (by omega) (by omega)]
    simp only [Option.bind_some]
    by_cases h3 : (m.length : Int) ≤ 1048576 - (l.length : Int)
    · have h4 : ¬ ((1048576 : Int) - l.length - m.length < 0) := by omega
      simp only [if_pos h3, if_neg h4]
      have t := toTable_ev s l (by omega)
      have tm := toTable_ev u m (by omega)
      obtain ⟨⟨R0, R1, R2⟩, hR, hs, hi⟩ := merge_ev s u (l.map cvM) (m.map cvM) (by simp; omega) (by simp; omega)
      simp only at hR
      have e' := eqTable_ev R0 R1 (by omega)
      refine Ev.bind t ?_
      refine Ev.bind tm ?_
      refine Ev.bind hs ?_
      refine Ev.bind t ?_
      refine Ev.bind tm ?_
      refine Ev.bind hi ?_
      refine Ev.bind e' ?_
      simp only [if_true, bne_self_eq_false]
      refine evPos ?_
      simp only [laws_FnExactMerge.j0, Bool.false_eq_true, if_false]
      refine Ev.bind t ?_
      refine Ev.bind (eqTable_ev s (l.map cvM) (by simp; omega)) ?_
      simp only [if_true]
      refine Ev.bind tm ?_
      refine Ev.bind (eqTable_ev u (m.map cvM) (by simp; omega)) ?_
      simp only [if_true]
      refine Ev.bind (markTab_ev s (l.map cvM) 1 (by omega) (by simp; omega)) ?_
      refine Ev.bind (markTab_ev u (m.map cvM) (1 + 3 * ((l.map cvM).length : Int)) (by omega) (by simp; omega)) ?_
      have c1 : ¬ ((1 : Int) + 3 * ((l.map cvM).length : Int) + 3 * ((m.map cvM).length : Int) < 0) := by omega
      simp only [if_neg c1]
      refine Ev.bind e' ?_
      simp only [if_true, bne_self_eq_false]
      refine evPos ?_
      simp only [laws_FnExactMerge.j1, Bool.false_eq_true, if_false]
      refine Ev.bind (markTab_ev R0 R1 1 (by omega) (by omega)) ?_
      refine Ev.bind (heldTab_ev R0 1 R1.length (by omega) (by omega)) ?_
      have c2 : ¬ ((1 : Int) + 3 * (R1.length : Int) < 0) := by omega
      simp only [if_neg c2, if_true]
      refine Ev.bind t ?_
      refine Ev.bind tm ?_
      refine Ev.bind hi ?_
      refine Ev.bind e' ?_
      simp only [if_true, bne_self_eq_false]
      refine evPos ?_
      simp only [laws_FnExactMerge.j2, Bool.false_eq_true, if_false]
      refine Ev.bind (heldTab_ev R0 1 R1.length (by omega) (by omega)) ?_
      simp only [if_neg c2, if_true]
      exact Ev.now _
    · simp only [if_neg h3]
      exact Ev.now _
  · simp only [if_neg h]
    exact Ev.now _

end Go.Proofs.Ytigoajblljolcaa.Pure
